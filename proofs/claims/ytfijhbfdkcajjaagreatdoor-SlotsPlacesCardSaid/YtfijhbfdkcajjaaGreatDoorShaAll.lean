/- The contracts of block, sha, hmac, tag: what they compute. -/
import Derived.Test.YtfijhbfdkcajjaaGreatDoorProg
import Derived.Below
import Derived.Deep.Draws
import Derived.Deep.AppendLies
import Derived.Maps.AppendAt
import Derived.OwnWalk
import Derived.Laws.BytesArg
import Derived.Laws.MakeOwn
import Derived.Laws.OwnMore
import Derived.Deep.OwnRows
import Derived.Tactics
import Derived.Lib.ConvBytes
import Derived.Laws.Slices
import Derived.WalkKit
import Derived.KernelRfl
import Derived.RowKit3
import Derived.Deep.LoopGhost
import Derived.Deep.QuietTactic
import Derived.BigQuiet
import Derived.WideLaws
import Derived.Deep.DeepCutAuto
import Derived.Deep.CutBlock
import Derived.Deep.RegionHeld3
import Derived.Laws.Rows
import Derived.Lib.AppendStr
import Derived.ArgAppend
import Derived.Laws.IdiomCopy
import Derived.OrdersHeld
import Derived.Laws.BitsLemmas
import Derived.RowKit
import Derived.Test.YtfijhbfdkcajjaaGreatDoorWWords
import Derived.Test.YtfijhbfdkcajjaaGreatDoorWLast
import Derived.Test.YtfijhbfdkcajjaaGreatDoorWTab
import Derived.Test.YtfijhbfdkcajjaaGreatDoorWEqStruct
import Derived.Test.YtfijhbfdkcajjaaGreatDoorWRepsOne
import Derived.Test.YtfijhbfdkcajjaaGreatDoorWLess
import Derived.StillTailTactics
import Derived.Laws.CopyRow
import Derived.Deep.MidRow
import Derived.Lib.Strings
import Derived.Lib.Slices
import Derived.Lib.Walk
import Derived.Lib.Builder
import Derived.Lib.UnsafeStr
import Derived.Lib.MakeNoZero
import Derived.Laws.Externs
import Derived.Shelf.Strings.Builder1
import Derived.Shelf.LaysM
import Derived.RangeFuncLeaves
import Derived.RangeFuncRecord
import Derived.RangeFuncSeq
import Derived.RangeFuncBound
import Derived.LoopTactic
import Derived.Outline
import Derived.OwnWalkIn
import Derived.TacticsInMore
import Derived.LoopNIn
import Derived.LoopIn
import Derived.RangeFuncCalls
import Derived.RangeFuncOwn
import Derived.Sort.LoopGhostIn
import Derived.Shelf.Abstract
import Derived.Shelf.Strconv.Clone
import Derived.OrdersIn
import Derived.CallsIn
import Derived.Shelf.Strings.Repeat
import Derived.Laws.IdiomStrings
import Derived.Deep.RegionWith
import Derived.Laws.Bits64b
-- Written by wip/tools/myprint.py (a print of the translation, turned). Not trusted: Lean checks it.
namespace Go.Proofs.YtfijhbfdkcajjaaGreatDoor.Sh
open Go.RowKit Go.Proofs.YtfijhbfdkcajjaaGreatDoorW.PrintWords Go.Proofs.YtfijhbfdkcajjaaGreatDoorW.PrintLast Go.Proofs.YtfijhbfdkcajjaaGreatDoorW.PrintMore
attribute [local go_sem] max2_int min2_int max_two min_two max_three min_three max_four min_four   -- for this text's walks alone
set_option linter.unusedVariables false
set_option linter.unusedSimpArgs false



def errW : Option Int → Value
  | none => .nilIface
  | some c => .iface 0 (.int .i64 c)
theorem errW_none : errW none = .nilIface := rfl
theorem errW_some (c : Int) : errW (some c) = .iface 0 (.int .i64 c) := rfl

theorem info107 : (Tryz.prog.info? 107).map (fun i => (i.zero, i.size, i.bytes)) = some (some (.int .u32 0), 1, 4) := by kernel_rfl
-- the values' own types

end Go.Proofs.YtfijhbfdkcajjaaGreatDoor.Sh

-- Written by wip/tools/myprint.py (a print of the translation, turned). Not trusted: Lean checks it.
namespace Go.Proofs.YtfijhbfdkcajjaaGreatDoor.Sh
open Go.RowKit Go.Proofs.YtfijhbfdkcajjaaGreatDoorW.PrintWords Go.Proofs.YtfijhbfdkcajjaaGreatDoorW.PrintLast Go.Proofs.YtfijhbfdkcajjaaGreatDoorW.PrintMore
attribute [local go_sem] max2_int min2_int max_two min_two max_three min_three max_four min_four   -- for this text's walks alone
set_option linter.unusedVariables false
set_option linter.unusedSimpArgs false

/-! ### bits_RotateLeft32: function 158 -/
def bits_RotateLeft32.f (a0 : Int) (a1 : Int) : Option (Int) := if 0 ≤ (Go.bits .and .u64 (IntKind.u64.wrap (a1)) 31) then (if 0 ≤ (IntKind.u64.wrap (32 - (Go.bits .and .u64 (IntKind.u64.wrap (a1)) 31))) then (some (Go.bits .or .u32 (shl .u32 a0 (Go.bits .and .u64 (IntKind.u64.wrap (a1)) 31)) (shr .u32 a0 (IntKind.u64.wrap (32 - (Go.bits .and .u64 (IntKind.u64.wrap (a1)) 31)))))) else (none)) else (none)
set_option maxHeartbeats 8000000 in
set_option maxRecDepth 100000 in
theorem bits_RotateLeft32.calls (a0 : Int) (a1 : Int) (r : Int) (w : World) (h : bits_RotateLeft32.f a0 a1 = some r) :
    Calls Tryz.prog 158 #[.int .u32 a0, .int .i64 a1] w fun e w' => e = .returned (.int .u32 r) ∧ Drawn0 w w' := by
  have H : (if 0 ≤ (Go.bits .and .u64 (IntKind.u64.wrap (a1)) 31) then (if 0 ≤ (IntKind.u64.wrap (32 - (Go.bits .and .u64 (IntKind.u64.wrap (a1)) 31))) then (some (Go.bits .or .u32 (shl .u32 a0 (Go.bits .and .u64 (IntKind.u64.wrap (a1)) 31)) (shr .u32 a0 (IntKind.u64.wrap (32 - (Go.bits .and .u64 (IntKind.u64.wrap (a1)) 31)))))) else (none)) else (none)) = some r := h
  clear h
  obtain ⟨ji3, hji3⟩ : ∃ j_ : Int, (Go.bits .and .u64 (IntKind.u64.wrap (a1)) 31) = j_ := ⟨_, rfl⟩
  replace H : (if 0 ≤ (ji3) then (if 0 ≤ (IntKind.u64.wrap (32 - (ji3))) then (some (Go.bits .or .u32 (shl .u32 a0 (ji3)) (shr .u32 a0 (IntKind.u64.wrap (32 - (ji3)))))) else (none)) else (none)) = some r := by first | (rw [hji3] at H; exact H) | (simp only [hji3] at H ⊢; exact H)
  by_cases c4 : 0 ≤ (ji3)
  · rw [if_pos c4] at H
    have c4b0 := eq_true c4
    have c4b1 : decide (0 ≤ (ji3)) = true := decide_eq_true c4
    clear c4
    obtain ⟨ji5, hji5⟩ : ∃ j_ : Int, (shl .u32 a0 (ji3)) = j_ := ⟨_, rfl⟩
    replace H : (if 0 ≤ (IntKind.u64.wrap (32 - (ji3))) then (some (Go.bits .or .u32 (ji5) (shr .u32 a0 (IntKind.u64.wrap (32 - (ji3)))))) else (none)) = some r := by first | (rw [hji5] at H; exact H) | (simp only [hji5] at H ⊢; exact H)
    have hji5_ : (IntKind.u32.wrap (a0 * 2 ^ min (ji3).toNat 32)) = ji5 := hji5
    have hji5z : (ji3) ≤ 32 → (IntKind.u32.wrap (a0 * 2 ^ (ji3).toNat)) = ji5 := shl_small hji5
    obtain ⟨ji6, hji6⟩ : ∃ j_ : Int, (IntKind.u64.wrap (32 - (ji3))) = j_ := ⟨_, rfl⟩
    replace H : (if 0 ≤ (ji6) then (some (Go.bits .or .u32 (ji5) (shr .u32 a0 (ji6)))) else (none)) = some r := by first | (rw [hji6] at H; exact H) | (simp only [hji6] at H ⊢; exact H)
    by_cases c7 : 0 ≤ (ji6)
    · rw [if_pos c7] at H
      have c7b0 := eq_true c7
      have c7b1 : decide (0 ≤ (ji6)) = true := decide_eq_true c7
      clear c7
      obtain ⟨ji8, hji8⟩ : ∃ j_ : Int, (shr .u32 a0 (ji6)) = j_ := ⟨_, rfl⟩
      replace H : (some (Go.bits .or .u32 (ji5) (ji8))) = some r := by first | (rw [hji8] at H; exact H) | (simp only [hji8] at H ⊢; exact H)
      have hji8_ : (a0 / 2 ^ min (ji6).toNat 32) = ji8 := hji8
      have hji8z : (ji6) ≤ 32 → (a0 / 2 ^ (ji6).toNat) = ji8 := shr_small hji8
      obtain rfl := Option.some.inj H
      go_enter Tryz.func158, Tryz.ntmps158
      go_wp2
      go_ret
      exact ⟨by first | rfl | (simp; done) | (simp only [← hji3, ← hji5, ← hji6, ← hji8] <;> (first | rfl | simp)) | (simp [*]; done), by repeat (first | exact Drawn0.refl _ | apply Drawn0.step)⟩
    · rw [if_neg c7] at H
      exact absurd H (by simp)
  · rw [if_neg c4] at H
    exact absurd H (by simp)

/-! ### block_right: function 155 -/
def block_right.f (a0 : Int) (a1 : Int) : Option (Int) := (bits_RotateLeft32.f a0 (wrap64 (-a1))).bind fun t101 => (some t101)
set_option maxHeartbeats 8000000 in
set_option maxRecDepth 100000 in
theorem block_right.calls (a0 : Int) (a1 : Int) (r : Int) (w : World) (h : block_right.f a0 a1 = some r) :
    Calls Tryz.prog 155 #[.int .u32 a0, .int .i64 a1] w fun e w' => e = .returned (.int .u32 r) ∧ Drawn0 w w' := by
  have H : ((bits_RotateLeft32.f a0 (wrap64 (-a1))).bind fun t101 => (some t101)) = some r := h
  clear h
  replace H := Option.bind_eq_some_iff.mp H
  obtain ⟨t101, A30, H⟩ := H
  replace H : (some t101) = some r := H
  have A3 := Aside0.mk A30
  clear A30
  obtain rfl := Option.some.inj H
  go_enter Tryz.func155, Tryz.ntmps155
  go_wp2_with (first | ((with_reducible refine gate_callee (f := 158) rfl ?_); refine goesL_ (some 8) rfl rfl Tryz.func158 (by kernel_rfl) rfl #[.int .u32 a0, .int .i64 (wrap64 (-a1))] rfl (by (try simp only [List.map_toArray, List.map_cons, List.map_nil]); first | done | rfl | (simp only [List.length_drop, List.length_take]; rfl)) ?_; (with_reducible refine (bits_RotateLeft32.calls a0 (wrap64 (-a1)) t101 _ A3.out).mono ?_); rintro e w' ⟨rfl, ⟨nd, rfl⟩⟩; refine ⟨_, rfl, ?_⟩))
  go_ret
  exact ⟨by first | rfl | (simp; done) | (simp [*]; done), by repeat (first | exact Drawn0.refl _ | apply Drawn0.step)⟩

end Go.Proofs.YtfijhbfdkcajjaaGreatDoor.Sh

/- Plain words of the digest: turning a word, what a round adds. The contracts of block.right and block.parts. -/
namespace Go.Proofs.YtfijhbfdkcajjaaGreatDoor.Sh
open Go.RowKit Go.Proofs.YtfijhbfdkcajjaaGreatDoorW.PrintWords Go.Proofs.YtfijhbfdkcajjaaGreatDoorW.PrintLast Go.Proofs.YtfijhbfdkcajjaaGreatDoorW.PrintMore
set_option linter.unusedVariables false
set_option linter.unusedSimpArgs false
/-- A word turned right. -/
def rotr (n : Nat) (x : Int) : Int := Go.bits .or .u32 ((x * 2 ^ (32 - n)) % 4294967296) (x / 2 ^ n)
/-- The counts by which words are turned. -/
def turns : List Int := [2, 6, 7, 11, 13, 17, 18, 19, 22, 25]
theorem right_aux (n m : Nat) (x : Int) (e : Go.bits .and .u64 (IntKind.u64.wrap (wrap64 (-(n : Int)))) 31 = (m : Int)) (h : m + n = 32) : block_right.f x (n : Int) = some (rotr n x) := by
  unfold block_right.f bits_RotateLeft32.f
  have e2 : IntKind.u64.wrap (32 - (m : Int)) = (n : Int) := by rw [IntWalk.u64_in _ (by omega)]; omega
  rw [e, e2, if_pos (by omega), if_pos (by omega), Option.bind_some]
  have m1 : min (m : Int).toNat IntKind.u32.bits = 32 - n := by simp [IntKind.bits]; omega
  have m2 : min (n : Int).toNat IntKind.u32.bits = n := by simp [IntKind.bits]; omega
  unfold shl shr rotr
  rw [m1, m2]
  rfl
theorem right_is (n x : Int) (hn : n ∈ turns) : block_right.f x n = some (rotr n.toNat x) := by
  simp only [turns, List.mem_cons, List.not_mem_nil, or_false] at hn
  rcases hn with rfl | rfl | rfl | rfl | rfl | rfl | rfl | rfl | rfl | rfl
  · exact right_aux 2 30 x (by decide +kernel) rfl
  · exact right_aux 6 26 x (by decide +kernel) rfl
  · exact right_aux 7 25 x (by decide +kernel) rfl
  · exact right_aux 11 21 x (by decide +kernel) rfl
  · exact right_aux 13 19 x (by decide +kernel) rfl
  · exact right_aux 17 15 x (by decide +kernel) rfl
  · exact right_aux 18 14 x (by decide +kernel) rfl
  · exact right_aux 19 13 x (by decide +kernel) rfl
  · exact right_aux 22 10 x (by decide +kernel) rfl
  · exact right_aux 25 7 x (by decide +kernel) rfl
theorem right_calls (x n : Int) (hn : n ∈ turns) (w : World) : Calls Tryz.prog 155 #[.int .u32 x, .int .i64 n] w fun e w' => e = .returned (.int .u32 (rotr n.toNat x)) ∧ Drawn0 w w' :=
  block_right.calls x n _ w (right_is n x hn)
/-- What a round adds to d and to all, of e, f, g; to all alone, of a, b, c. -/
def chX (e f g : Int) : Int := Go.bits .xor .u32 (Go.bits .and .u32 e f) (Go.bits .and .u32 (Go.bits .xor .u32 IntKind.u32.max e) g)
def majX (a b c : Int) : Int := Go.bits .xor .u32 (Go.bits .xor .u32 (Go.bits .and .u32 a b) (Go.bits .and .u32 a c)) (Go.bits .and .u32 b c)
def big1 (e : Int) : Int := Go.bits .xor .u32 (Go.bits .xor .u32 (rotr 6 e) (rotr 11 e)) (rotr 25 e)
def big0 (a : Int) : Int := Go.bits .xor .u32 (Go.bits .xor .u32 (rotr 2 a) (rotr 13 a)) (rotr 22 a)
set_option maxHeartbeats 2000000 in
set_option maxRecDepth 100000 in
theorem parts_calls (e f g a b c : Int) (w : World) : Calls Tryz.prog 156 #[.int .u32 e, .int .u32 f, .int .u32 g, .int .u32 a, .int .u32 b, .int .u32 c] w fun en w' => en = .returned (.tuple #[.int .u32 ((big1 e + chX e f g) % 4294967296), .int .u32 ((big0 a + majX a b c) % 4294967296)]) ∧ Drawn0 w w' := by
  go_enter Tryz.func156, Tryz.ntmps156
  go_wp2_with (go_at_call 155; refine (right_calls _ _ (by decide) _).mono ?_; rintro en w1 ⟨rfl, ⟨⟨n, rfl⟩⟩⟩)
  go_ret2
  refine ⟨?_, by repeat (first | exact Drawn0.refl _ | apply Drawn0.step)⟩
  rfl
end Go.Proofs.YtfijhbfdkcajjaaGreatDoor.Sh

/- The contracts of block.Constant and block.Round. -/
namespace Go.Proofs.YtfijhbfdkcajjaaGreatDoor.Sh
open Go.RowKit Go.Proofs.YtfijhbfdkcajjaaGreatDoorW.PrintWords Go.Proofs.YtfijhbfdkcajjaaGreatDoorW.PrintLast Go.Proofs.YtfijhbfdkcajjaaGreatDoorW.PrintMore
set_option linter.unusedVariables false
set_option linter.unusedSimpArgs false
theorem belN {B : Nat} {a w : World} (n : Nat) (h : Below B a w) : Below B a (w.drewN n) := ⟨h.os, h.tape, h.output, h.size, h.block⟩
/-- The rounds' constants. -/
def konst : List Int := [1116352408, 1899447441, 3049323471, 3921009573, 961987163, 1508970993, 2453635748, 2870763221, 3624381080, 310598401, 607225278, 1426881987, 1925078388, 2162078206, 2614888103, 3248222580, 3835390401, 4022224774, 264347078, 604807628, 770255983, 1249150122, 1555081692, 1996064986, 2554220882, 2821834349, 2952996808, 3210313671, 3336571891, 3584528711, 113926993, 338241895, 666307205, 773529912, 1294757372, 1396182291, 1695183700, 1986661051, 2177026350, 2456956037, 2730485921, 2820302411, 3259730800, 3345764771, 3516065817, 3600352804, 4094571909, 275423344, 430227734, 506948616, 659060556, 883997877, 958139571, 1322822218, 1537002063, 1747873779, 1955562222, 2024104815, 2227730452, 2361852424, 2428436474, 2756734187, 3204031479, 3329325298]
/-- The table reads as it was laid. -/
def CTab (w : World) : Prop := ∀ j : Nat, j < 64 → w.cell? ⟨3, j, none⟩ = some (.int .u32 (konst.getD j 0))
theorem CTab.lt {w : World} (h : CTab w) : 3 < w.heap.size := World.block_lt_of_cell? w _ (h 0 (by decide))
theorem CTab.below {w w' : World} (h : CTab w) (hb : Below w.heap.size w w') : CTab w' := fun j hj => (hb.cell h.lt).trans (h j hj)
set_option maxRecDepth 100000 in
theorem constant_calls (k : Nat) (hk : k < 64) (w : World) (hT : CTab w) : Calls Tryz.prog 157 #[.int .i64 (k : Int)] w fun e w' => e = .returned (.int .u32 (konst.getD k 0)) ∧ w' = w := by
  have hc := hT k hk
  generalize konst.getD k 0 = v at hc ⊢
  clear hT
  have h1 : decide ((k : Int) < 0) = false := decide_eq_false (by omega)
  have h2 : decide ((64 : Int) ≤ (k : Int)) = false := decide_eq_false (by omega)
  have h3 : (0 : Int) ≤ (k : Int) := by omega
  have h4 : (k : Int) < 64 := by omega
  go_enter Tryz.func157, Tryz.ntmps157
  go_wp2
  go_ret
  exact ⟨rfl, rfl⟩
/-- A state of eight words. -/
structure St8 where
  a : Int
  b : Int
  c : Int
  d : Int
  e : Int
  f : Int
  g : Int
  h : Int
def St8.cells (s : St8) : Array Value := #[.int .u32 s.a, .int .u32 s.b, .int .u32 s.c, .int .u32 s.d, .int .u32 s.e, .int .u32 s.f, .int .u32 s.g, .int .u32 s.h]
/-- A round, by its constant and its word. -/
def roundT1 (s : St8) (k x : Int) : Int := (((s.h + (big1 s.e + chX s.e s.f s.g) % 4294967296) % 4294967296 + k) % 4294967296 + x) % 4294967296
def roundX (s : St8) (k x : Int) : St8 := ⟨(roundT1 s k x + (big0 s.a + majX s.a s.b s.c) % 4294967296) % 4294967296, s.a, s.b, s.c, (s.d + roundT1 s k x) % 4294967296, s.e, s.f, s.g⟩
theorem constant_at (k : Nat) (hk : k < 64) (kk : Int) (h : konst.getD k 0 = kk) (w : World) (hT : CTab w) : Calls Tryz.prog 157 #[.int .i64 (k : Int)] w fun e w' => e = .returned (.int .u32 kk) ∧ w' = w := h ▸ constant_calls k hk w hT
set_option maxHeartbeats 4000000 in
set_option maxRecDepth 100000 in
theorem round_at (s : St8) (k : Nat) (hk : k < 64) (kk x : Int) (h : konst.getD k 0 = kk) (w : World) (hT : CTab w) : Calls Tryz.prog 151 #[.agg s.cells, .int .i64 (k : Int), .int .u32 x] w fun e w' => e = .returned (.agg (roundX s kk x).cells) ∧ Below w.heap.size w w' := by
  have HC := fun W hW => constant_at k hk kk h W hW
  clear h
  obtain ⟨a, b, c, d, e, f, g, h⟩ := s
  simp only [St8.cells]
  have HT := Aside0.mk hT
  clear hT
  go_enter Tryz.func151, Tryz.ntmps151
  go_wp2
  go_quiet (fail)
  go_wp2_with fail
  refine (parts_calls _ _ _ _ _ _ _).mono ?_
  rintro en w1 ⟨rfl, ⟨⟨n1, rfl⟩⟩⟩
  go_wp2_with fail
  refine (HC _ (HT.out.below (by repeat (first | exact Below.refl _ _ | refine belN _ ?_ | refine Below.alloc ?_ (by simp) _)))).mono ?_
  rintro en w2 ⟨rfl, hw2⟩
  subst hw2
  clear HC
  go_wp2
  refine bodyPost_ret (v := .agg #[.int .u32 ((roundT1 ⟨a, b, c, d, e, f, g, h⟩ kk x + (big0 a + majX a b c) % 4294967296) % 4294967296), .int .u32 a, .int .u32 b, .int .u32 c, .int .u32 ((d + roundT1 ⟨a, b, c, d, e, f, g, h⟩ kk x) % 4294967296), .int .u32 e, .int .u32 f, .int .u32 g]) ?_ rfl ?_
  · simp [results, Tryz.results151, go_sem, roundT1]
  · refine ⟨rfl, ?_⟩
    repeat (with_reducible first | refine Below.setCell ?_ (Nat.le_succ _) _ | refine belN _ ?_ | refine Below.alloc ?_ (by simp) _ | exact Below.refl _ _)
theorem round_calls (s : St8) (k : Nat) (hk : k < 64) (x : Int) (w : World) (hT : CTab w) : Calls Tryz.prog 151 #[.agg s.cells, .int .i64 (k : Int), .int .u32 x] w fun e w' => e = .returned (.agg (roundX s (konst.getD k 0) x).cells) ∧ Below w.heap.size w w' := round_at s k hk _ x rfl w hT
end Go.Proofs.YtfijhbfdkcajjaaGreatDoor.Sh

/- The contract of block.Words. -/
namespace Go.Proofs.YtfijhbfdkcajjaaGreatDoor.Sh
open Go.RowKit Go.Proofs.YtfijhbfdkcajjaaGreatDoorW.PrintWords Go.Proofs.YtfijhbfdkcajjaaGreatDoorW.PrintLast Go.Proofs.YtfijhbfdkcajjaaGreatDoorW.PrintMore
set_option linter.unusedVariables false
set_option linter.unusedSimpArgs false
/-- Four bytes as a word. -/
def ld4 (s : ByteArray) (a : Nat) : Int := Go.bits .or .u32 (Go.bits .or .u32 (Go.bits .or .u32 (bt s (a : Int) % 4294967296 * 16777216 % 4294967296) (bt s ((a + 1 : Nat) : Int) % 4294967296 * 65536 % 4294967296)) (bt s ((a + 2 : Nat) : Int) % 4294967296 * 256 % 4294967296)) (bt s ((a + 3 : Nat) : Int) % 4294967296)
theorem ext_bt (s q : ByteArray) (a b j : Nat) (hq : s.extract a b = q) (hb : b ≤ s.size) (hj : j < q.size) : (q[j].toNat : Int) = bt s ((a + j : Nat) : Int) := by
  subst hq
  have h1 : a + j < s.size := by simp at hj; omega
  unfold bt
  simp only [Int.toNat_natCast]
  rw [dif_pos h1, ByteArray.getElem_extract]
def small0 (x : Int) : Int := Go.bits .xor .u32 (Go.bits .xor .u32 (rotr 7 x) (rotr 18 x)) (x / 8)
def small1 (x : Int) : Int := Go.bits .xor .u32 (Go.bits .xor .u32 (rotr 17 x) (rotr 19 x)) (x / 1024)
/-- The next word, behind these. -/
def wNext (s : ByteArray) (l : List Int) (t : Nat) : Int :=
  if t < 16 then ld4 s (4 * t) else (((l.getD (t - 16) 0 + small0 (l.getD (t - 15) 0)) % 4294967296 + l.getD (t - 7) 0) % 4294967296 + small1 (l.getD (t - 2) 0)) % 4294967296
/-- The first t words of a block. -/
def wl (s : ByteArray) : Nat → List Int
  | 0 => []
  | t + 1 => wl s t ++ [wNext s (wl s t) t]
theorem wl_len (s : ByteArray) (t : Nat) : (wl s t).length = t := by
  induction t with
  | zero => rfl
  | succ t ih => simp [wl, ih]
def wCells (s : ByteArray) (t : Nat) : Array Value := ((wl s t ++ List.replicate (64 - t) 0).map (Value.int .u32)).toArray
theorem wCells_get (s : ByteArray) (t j : Nat) (hj : j < t) : (wCells s t)[j]? = some (.int .u32 ((wl s t).getD j 0)) := by
  have h := wl_len s t
  have hlt : j < (wl s t).length := by omega
  unfold wCells
  rw [List.getElem?_toArray, List.getElem?_map, List.getElem?_append_left hlt, List.getD_eq_getElem?_getD, List.getElem?_eq_getElem hlt]
  rfl
theorem wCells_old (s : ByteArray) (t j : Nat) (hj : j < 64) : ∃ v, (wCells s t)[j]? = some v := by
  have h := wl_len s t
  have : j < (wCells s t).size := by simp [wCells, h]; omega
  exact ⟨_, Array.getElem?_eq_getElem this⟩
theorem wCells_set (s : ByteArray) (t : Nat) (ht : t < 64) : (wCells s t).setIfInBounds t (.int .u32 (wNext s (wl s t) t)) = wCells s (t + 1) := by
  have h := wl_len s t
  apply Array.ext'
  simp only [wCells, Array.toList_setIfInBounds, wl]
  rw [show 64 - t = (64 - (t + 1)) + 1 by omega, List.replicate_succ, List.map_append, List.map_cons, List.set_append_right _ _ (by simp [h])]
  simp [h]
theorem drawn_blk {w w1 : World} {g : Nat} {o : Option Obj} (hd : Drawn0 w w1) (h : w.heap[g]? = o) : w1.heap[g]? = o := by obtain ⟨n, rfl⟩ := hd.out; exact h
theorem drawn_below {B : Nat} {a w w1 : World} (hd : Drawn0 w w1) (h : Below B a w) : Below B a w1 := by obtain ⟨n, rfl⟩ := hd.out; exact belN n h
theorem wstore {w : World} {B t : Nat} {s : ByteArray} {T : TypeId} (h : w.heap[B]? = some (.cells (wCells s t) T (0, 0))) (ht : t < 64) {x : Int} (hx : x = wNext s (wl s t) t) : (w.setCell ⟨B, t, none⟩ (.int .u32 x)).heap[B]? = some (.cells (wCells s (t + 1)) T (0, 0)) := by
  rw [heap_setCell_same w B t _ T _ h, hx, wCells_set s t ht]
set_option maxHeartbeats 8000000 in
set_option maxRecDepth 100000 in
theorem words_calls (s : ByteArray) (hs : s.size = 64) (w : World) : Calls Tryz.prog 150 #[.string s] w fun e w' => e = .returned (.tuple #[.slice (some ⟨w.heap.size, 0, none⟩) 64 64, .int .i64 0]) ∧ w'.heap[w.heap.size]? = some (.cells (wCells s 64) 107 (0, 0)) ∧ Below w.heap.size w w' := by
  have c0 : ((s.size : Int) != 64) = false := by rw [hs]; rfl
  have hmk : ∀ w, (Instr.makeSlice 147 (.int .i64 64) (.int .i64 64)).run Tryz.prog w = .ok (.slice (some ⟨w.heap.size, 0, none⟩) 64 64) (w.alloc (.cells (wCells s 0) 107)) := fun _ => by kernel_rfl
  have HS := Aside0.mk hs
  clear hs
  go_enter Tryz.func150, Tryz.ntmps150
  go_wp2
  go_loopw [17] (fun v17 wr => ∃ t : Nat, v17 = .int .i64 (t : Int) ∧ t ≤ 64 ∧ Aside0 (wr.heap[w.heap.size]? = some (.cells (wCells s t) 107 (0, 0))) ∧ Aside0 (Below w.heap.size w wr)) (fun v17 _ => 64 - (intOf v17).toNat)
  case atStart => exact ⟨0, rfl, by omega, ⟨blk_new w (.cells (wCells s 0) 107 (0, 0))⟩, ⟨(Below.refl _ _).alloc (Nat.le_refl _) _⟩⟩
  case round =>
    obtain ⟨t, rfl, ht, HC, HB⟩ := hrel
    by_cases hlt : t < 64
    · have d0 : decide ((t : Int) < 64) = true := decide_eq_true (by omega)
      have i1 : (t : Int) < 64 := by omega
      have i2 : (0 : Int) ≤ (t : Int) := by omega
      by_cases h16 : t < 16
      · have d1 : decide ((t : Int) < 16) = true := decide_eq_true (by omega)
        have i3 : (t : Int) < 16 := by omega
        have e1 : IntKind.i64.wrap (4 * (t : Int)) = 4 * (t : Int) := IntWalk.i64_in _ (by omega)
        have e2 : IntKind.i64.wrap (4 * (t : Int) + 4) = 4 * (t : Int) + 4 := IntWalk.i64_in _ (by omega)
        have e3 : (0 : Int) ≤ 4 * (t : Int) := by omega
        have e4 : (4 * (t : Int)) ≤ 4 * (t : Int) + 4 := by omega
        have e5 : (4 * (t : Int)) + 4 ≤ (s.size : Int) := by have := HS.out; omega
        go_wp2
        have hqs : (s.extract (4 * t) (4 * t + 4)).size = 4 := by have := HS.out; simp; omega
        generalize hq : s.extract (4 * t) (4 * t + 4) = q at hqs ⊢
        have q0 : (0 : Int) < (q.size : Int) := by omega
        have q0n : 0 < q.size := by omega
        have q1 : (1 : Int) < (q.size : Int) := by omega
        have q2 : (2 : Int) < (q.size : Int) := by omega
        have q3 : (3 : Int) < (q.size : Int) := by omega
        have HQ := Aside0.mk hq
        have HQS := Aside0.mk hqs
        clear hq hqs
        go_still_tail 21, (by kernel_rfl)
        change wpList _ _ _ _ _ wr.drew
        have HC2 := Aside0.mk (show wr.drew.heap[w.heap.size]? = some (.cells (wCells s t) 107 (0, 0)) from HC.out)
        have HB2 := Aside0.mk (show Below w.heap.size w wr.drew from HB.out.drew)
        obtain ⟨v0, hv0⟩ := wCells_old s t t hlt
        have hcell : wr.drew.cell? ⟨w.heap.size, t, none⟩ = some v0 := (blk_cell HC2.out t).trans hv0
        have hfro : wr.drew.frozen? ⟨w.heap.size, t, none⟩ = false := blk_frozen HC2.out t
        generalize wr.drew = w2 at HC2 HB2 hcell hfro ⊢
        clear HC HB hv0
        go_wp2
        refine ⟨⟨t + 1, by go_num, by omega, ⟨wstore HC2.out hlt ?_⟩, ⟨HB2.out.setCell (Nat.le_refl _) _⟩⟩, by simp [intOf]; omega⟩
        have hz : 4 * t + 4 ≤ s.size := by have := HS.out; omega
        have hz2 := HQS.out
        unfold wNext ld4
        rw [if_pos h16, ext_bt s q _ _ 0 HQ.out hz (by omega), ext_bt s q _ _ 1 HQ.out hz (by omega), ext_bt s q _ _ 2 HQ.out hz (by omega), ext_bt s q _ _ 3 HQ.out hz (by omega), Nat.add_zero]
      · have d1 : decide ((t : Int) < 16) = false := decide_eq_false (by omega)
        have i3 : (16 : Int) ≤ (t : Int) := by omega
        have f1 : IntKind.i64.wrap ((t : Int) - 15) = ((t - 15 : Nat) : Int) := by rw [IntWalk.i64_in _ (by omega)]; omega
        have f2 : IntKind.i64.wrap ((t : Int) - 2) = ((t - 2 : Nat) : Int) := by rw [IntWalk.i64_in _ (by omega)]; omega
        have f3 : IntKind.i64.wrap ((t : Int) - 16) = ((t - 16 : Nat) : Int) := by rw [IntWalk.i64_in _ (by omega)]; omega
        have f4 : IntKind.i64.wrap ((t : Int) - 7) = ((t - 7 : Nat) : Int) := by rw [IntWalk.i64_in _ (by omega)]; omega
        have x15 : wr.cell? ⟨w.heap.size, t - 15, none⟩ = some (.int .u32 ((wl s t).getD (t - 15) 0)) := (blk_cell HC.out _).trans (wCells_get s t _ (by omega))
        have x2 : wr.cell? ⟨w.heap.size, t - 2, none⟩ = some (.int .u32 ((wl s t).getD (t - 2) 0)) := (blk_cell HC.out _).trans (wCells_get s t _ (by omega))
        have g1 : ((t - 15 : Nat) : Int) < 64 := by omega
        have g2 : ((t - 2 : Nat) : Int) < 64 := by omega
        go_wp2
        have HC0 := HC
        have HB0 := HB
        clear HC HB
        go_quiet (fail)
        clear x15 x2
        go_wp2_with fail
        refine (right_calls _ _ (by decide) _).mono ?_
        rintro en w1 ⟨rfl, hd⟩
        have HC1 := Aside0.mk (drawn_blk hd HC0.out)
        have HB1 := Aside0.mk (drawn_below hd (by first | exact HB0.out | exact belN _ HB0.out))
        clear hd HC0 HB0
        have HC0 := HC1
        have HB0 := HB1
        clear HC1 HB1
        go_wp2_with fail
        refine (right_calls _ _ (by decide) _).mono ?_
        rintro en w1 ⟨rfl, hd⟩
        have HC1 := Aside0.mk (drawn_blk hd HC0.out)
        have HB1 := Aside0.mk (drawn_below hd (by first | exact HB0.out | exact belN _ HB0.out))
        clear hd HC0 HB0
        have HC0 := HC1
        have HB0 := HB1
        clear HC1 HB1
        go_wp2_with fail
        refine (right_calls _ _ (by decide) _).mono ?_
        rintro en w1 ⟨rfl, hd⟩
        have HC1 := Aside0.mk (drawn_blk hd HC0.out)
        have HB1 := Aside0.mk (drawn_below hd (by first | exact HB0.out | exact belN _ HB0.out))
        clear hd HC0 HB0
        have HC0 := HC1
        have HB0 := HB1
        clear HC1 HB1
        go_wp2_with fail
        refine (right_calls _ _ (by decide) _).mono ?_
        rintro en w1 ⟨rfl, hd⟩
        have HC1 := Aside0.mk (drawn_blk hd HC0.out)
        have HB1 := Aside0.mk (drawn_below hd (by first | exact HB0.out | exact belN _ HB0.out))
        clear hd HC0 HB0
        have HC0 := HC1
        have HB0 := HB1
        clear HC1 HB1
        have x16 : w1.cell? ⟨w.heap.size, t - 16, none⟩ = some (.int .u32 ((wl s t).getD (t - 16) 0)) := (blk_cell HC0.out _).trans (wCells_get s t _ (by omega))
        have x7 : w1.cell? ⟨w.heap.size, t - 7, none⟩ = some (.int .u32 ((wl s t).getD (t - 7) 0)) := (blk_cell HC0.out _).trans (wCells_get s t _ (by omega))
        have g3 : ((t - 16 : Nat) : Int) < 64 := by omega
        have g4 : ((t - 7 : Nat) : Int) < 64 := by omega
        go_wp2
        go_still_tail 18, (by kernel_rfl)
        change wpList _ _ _ _ _ w1.drew
        have HC2 := Aside0.mk (show w1.drew.heap[w.heap.size]? = some (.cells (wCells s t) 107 (0, 0)) from HC0.out)
        have HB2 := Aside0.mk (show Below w.heap.size w w1.drew from HB0.out.drew)
        obtain ⟨v0, hv0⟩ := wCells_old s t t hlt
        have hcell : w1.drew.cell? ⟨w.heap.size, t, none⟩ = some v0 := (blk_cell HC2.out t).trans hv0
        have hfro : w1.drew.frozen? ⟨w.heap.size, t, none⟩ = false := blk_frozen HC2.out t
        clear x16 x7
        generalize w1.drew = w2 at HC2 HB2 hcell hfro ⊢
        clear HC0 HB0 hv0
        go_wp2
        refine ⟨⟨t + 1, by go_num, by omega, ⟨wstore HC2.out hlt ?_⟩, ⟨HB2.out.setCell (Nat.le_refl _) _⟩⟩, by simp [intOf]; omega⟩
        unfold wNext
        rw [if_neg h16]
        simp [small0, small1, List.getD_eq_getElem?_getD]
    · have d0 : decide ((t : Int) < 64) = false := decide_eq_false (by omega)
      obtain rfl : t = 64 := by omega
      go_wp2
      go_ret2
      exact ⟨rfl, HC.out, HB.out⟩
end Go.Proofs.YtfijhbfdkcajjaaGreatDoor.Sh

/- Laws of the walk: an array or a struct stored into a part of a block that is known whole (as one 'setRow'); loaded from such a part. -/
namespace Go.RowStore
open Go Go.RowKit
section
variable {P : Program}
/-- The cells cs laid over those of cur, from o on. -/
def lay (cur : Array Value) (o : Nat) (cs : Array Value) : Array Value := (cur.toList.take o ++ cs.toList ++ cur.toList.drop (o + cs.size)).toArray
theorem run_storeVar (w : World) (g o : Nat) (ty t : TypeId) (cs cur : Array Value) (hg : w.heap[g]? = some (.cells cur t (0, 0))) (ho : o + cs.size ≤ cur.size) (hi : (P.info? ty).map (·.size) = some cs.size) (h1 : cs.all (·.oneCell') = true) :
    (storeVar ty ⟨g, o, none⟩ (.agg cs)).run P w = .ok () (w.setRow g (lay cur o cs)) := by
  have h := run_storeCells_at (P := P) g o t cs.toList 0 cur w hg (by simpa using ho) (fun v hv => (Array.all_eq_true_iff_forall_mem.1 h1) v (by simpa using hv))
  cases hq : P.info? ty with
  | none => simp [hq] at hi
  | some i =>
    have hs : cs.size = i.size := by simp [hq] at hi; omega
    simp only [Nat.add_zero, Array.length_toList] at h
    simp [storeVar, sizeOf, typeInfo, hq, Value.cells, hs, h, lay]
theorem wp_store {op : Oper} {a : Act} {w : World} {K : Act → World → Prop} {Q : Exit → Act → World → Prop} (ty : TypeId) (x y : Operand) (hop : op.op = .store ty x y)
    (g o : Nat) (cs : Array Value) (hx : a.eval x = .pointer (some ⟨g, o, none⟩)) (hy : a.eval y = .agg cs) (t : TypeId) (cur : Array Value) (hg : w.heap[g]? = some (.cells cur t (0, 0))) (ho : o + cs.size ≤ cur.size)
    (hi : (P.info? ty).map (·.size) = some cs.size) (h1 : cs.all (·.oneCell') = true)
    (h : K (a.put op.dst undef) (w.setRow g (lay cur o cs))) : op.wp P a w K Q := by
  unfold Oper.wp execOp
  simp only [hop, hx, hy, Instr.storeAt, Instr.sureAddr, Sem.run_bind, Sem.run_pure, Result.andThen_ok, run_storeVar w g o ty t cs cur hg ho hi h1]
  exact h
theorem wpList_store {ops : Array Oper} {rest : List Oper} {op : Oper} {a : Act} {w : World} {Q : Exit → Act → World → Prop} (hgd : op.guard = none) (ty : TypeId) (x y : Operand) (hop : op.op = .store ty x y)
    (g o : Nat) (cs : Array Value) (hx : a.eval x = .pointer (some ⟨g, o, none⟩)) (hy : a.eval y = .agg cs) (t : TypeId) (cur : Array Value) (hg : w.heap[g]? = some (.cells cur t (0, 0))) (ho : o + cs.size ≤ cur.size)
    (hi : (P.info? ty).map (·.size) = some cs.size) (h1 : cs.all (·.oneCell') = true)
    (h : wpList P ops Q rest (a.put op.dst undef) (w.setRow g (lay cur o cs))) : wpList P ops Q (op :: rest) a w :=
  wpList_plain hgd fun _ hK => wp_store ty x y hop g o cs hx hy t cur hg ho hi h1 (hK _ _ h)
theorem lay_all (cur cs : Array Value) (h : cs.size = cur.size) : lay cur 0 cs = cs := by
  unfold lay
  apply Array.ext'
  simp [h]
end
theorem heap_all {w : World} {g : Nat} {cur cs : Array Value} {t : TypeId} (h : w.heap[g]? = some (.cells cur t (0, 0))) (hs : cs.size = cur.size) : (w.setRow g (lay cur 0 cs)).heap[g]? = some (.cells cs t (0, 0)) := by
  rw [setRow_heap w g cur _ t _ h, lay_all cur cs hs]
theorem below_setRow {B g : Nat} {w0 w : World} (hb : Below B w0 w) (hBg : B ≤ g) (cs : Array Value) : Below B w0 (w.setRow g cs) :=
  hb.trans ⟨rfl, rfl, rfl, by simp [World.setRow], fun k hk => setRow_other w g k cs (by omega)⟩
end Go.RowStore

/- The contract of block.Next. -/
namespace Go.Proofs.YtfijhbfdkcajjaaGreatDoor.Sh
open Go.RowKit Go.Proofs.YtfijhbfdkcajjaaGreatDoorW.PrintWords Go.Proofs.YtfijhbfdkcajjaaGreatDoorW.PrintLast Go.Proofs.YtfijhbfdkcajjaaGreatDoorW.PrintMore
set_option linter.unusedVariables false
set_option linter.unusedSimpArgs false
def St8.list (s : St8) : List Int := [s.a, s.b, s.c, s.d, s.e, s.f, s.g, s.h]
/-- The state behind k rounds. -/
def stk (s : St8) (b : ByteArray) : Nat → St8
  | 0 => s
  | k + 1 => roundX (stk s b k) (konst.getD k 0) ((wl b 64).getD k 0)
/-- Two states, added. -/
def addX (x s : St8) : St8 := ⟨(x.a + s.a) % 4294967296, (x.b + s.b) % 4294967296, (x.c + s.c) % 4294967296, (x.d + s.d) % 4294967296, (x.e + s.e) % 4294967296, (x.f + s.f) % 4294967296, (x.g + s.g) % 4294967296, (x.h + s.h) % 4294967296⟩
/-- What comes of a state by a block. -/
def nextX (s : St8) (b : ByteArray) : St8 := addX (stk s b 64) s
/-- The cells of x, the first i of them added to those of s. -/
def mixCells (x s : St8) (i : Nat) : Array Value := ((List.range 8).map fun j => Value.int .u32 (if j < i then (x.list.getD j 0 + s.list.getD j 0) % 4294967296 else x.list.getD j 0)).toArray
theorem mix_get (x s : St8) (i : Nat) (h : i < 8) : (mixCells x s i)[i]? = some (.int .u32 (x.list.getD i 0)) := by
  match i, h with
  | 0, _ => rfl
  | 1, _ => rfl
  | 2, _ => rfl
  | 3, _ => rfl
  | 4, _ => rfl
  | 5, _ => rfl
  | 6, _ => rfl
  | 7, _ => rfl
theorem cells_get (s : St8) (i : Nat) (h : i < 8) : s.cells[i]? = some (.int .u32 (s.list.getD i 0)) := by
  match i, h with
  | 0, _ => rfl
  | 1, _ => rfl
  | 2, _ => rfl
  | 3, _ => rfl
  | 4, _ => rfl
  | 5, _ => rfl
  | 6, _ => rfl
  | 7, _ => rfl
theorem mix_set (x s : St8) (i : Nat) (h : i < 8) : (mixCells x s i).setIfInBounds i (.int .u32 ((x.list.getD i 0 + s.list.getD i 0) % 4294967296)) = mixCells x s (i + 1) := by
  match i, h with
  | 0, _ => rfl
  | 1, _ => rfl
  | 2, _ => rfl
  | 3, _ => rfl
  | 4, _ => rfl
  | 5, _ => rfl
  | 6, _ => rfl
  | 7, _ => rfl
set_option maxHeartbeats 8000000 in
set_option maxRecDepth 100000 in
theorem next_calls (s : St8) (b : ByteArray) (hb : b.size = 64) (w : World) (hT : CTab w) : Calls Tryz.prog 139 #[.agg s.cells, .string b] w fun e w' => e = .returned (.tuple #[.agg (nextX s b).cells, .int .i64 0]) ∧ Below w.heap.size w w' := by
  have HT := Aside0.mk hT
  have HS := Aside0.mk hb
  have hI8 : ∀ x : St8, (Tryz.prog.info? 155).map (·.size) = some x.cells.size := fun x => by kernel_rfl
  have h18 : ∀ x : St8, x.cells.all (·.oneCell') = true := fun x => by simp [St8.cells, Value.oneCell']
  have HI8 := Aside0.mk hI8
  have HO8 := Aside0.mk h18
  clear hI8 h18
  have hI : (Tryz.prog.info? 155).map (·.size) = some s.cells.size := by kernel_rfl
  clear hT hb
  go_enter Tryz.func139, Tryz.ntmps139
  go_wp2_with fail
  refine (words_calls b HS.out _).mono ?_
  rintro en w1 ⟨rfl, hC, hB⟩
  have hE : Aside0 (w1.heap[w.heap.size]? = some (.cells s.cells 155 (0, 0))) := ⟨blk_below (blk_below (blk_new w (.cells s.cells 155 (0, 0))) ((Below.refl _ _).alloc (Nat.le_refl _) _)) hB⟩
  have hR : Aside0 (w1.heap[w.heap.size + 1]? = some (.cells (St8.cells ⟨0, 0, 0, 0, 0, 0, 0, 0⟩) 155 (0, 0))) := ⟨blk_below (heap_alloc2_new w _ (.cells (St8.cells ⟨0, 0, 0, 0, 0, 0, 0, 0⟩) 155 (0, 0))) hB⟩
  have hW : Aside0 (w1.heap[w.heap.size + 1 + 1]? = some (.cells (wCells b 64) 107 (0, 0))) := ⟨by simpa using hC⟩
  have hB1 : Aside0 (Below w.heap.size w w1) := ⟨(((Below.refl _ _).alloc (Nat.le_refl _) _).alloc (by simp) _).trans (hB.mono (by simp; omega))⟩
  clear hC hB
  have hN : Aside0 ((w1.alloc (.cells #[.int .u32 0, .int .u32 0, .int .u32 0, .int .u32 0, .int .u32 0, .int .u32 0, .int .u32 0, .int .u32 0] 155)).heap[w1.heap.size]? = some (.cells #[.int .u32 0, .int .u32 0, .int .u32 0, .int .u32 0, .int .u32 0, .int .u32 0, .int .u32 0, .int .u32 0] 155 (0, 0))) := ⟨blk_new w1 _⟩
  have hz : 0 + s.cells.size ≤ (#[.int .u32 0, .int .u32 0, .int .u32 0, .int .u32 0, .int .u32 0, .int .u32 0, .int .u32 0, .int .u32 0] : Array Value).size := Nat.le_refl 8
  have h1 : s.cells.all (·.oneCell') = true := by simp [St8.cells, Value.oneCell']
  go_wp2_with (first | (with_reducible refine wpList_load_row rfl 155 _ rfl w.heap.size rfl 155 s.cells (0, 0) _ hE.out Tryz.underlying155 rfl hI ?_) | (with_reducible refine RowStore.wpList_store rfl 155 _ _ rfl w1.heap.size 0 s.cells rfl rfl 155 _ hN.out hz hI h1 ?_))
  have hG : w.heap.size + 1 + 1 < w1.heap.size := blk_lt hW.out
  have LB : Below w.heap.size w ((w1.alloc (.cells #[.int .u32 0, .int .u32 0, .int .u32 0, .int .u32 0, .int .u32 0, .int .u32 0, .int .u32 0, .int .u32 0] 155)).setRow w1.heap.size (RowStore.lay #[.int .u32 0, .int .u32 0, .int .u32 0, .int .u32 0, .int .u32 0, .int .u32 0, .int .u32 0, .int .u32 0] 0 s.cells)) := RowStore.below_setRow (hB1.out.alloc hB1.out.size _) (by omega) _
  have LO : ∀ k o, k < w1.heap.size → w1.heap[k]? = some o → ((w1.alloc (.cells #[.int .u32 0, .int .u32 0, .int .u32 0, .int .u32 0, .int .u32 0, .int .u32 0, .int .u32 0, .int .u32 0] 155)).setRow w1.heap.size (RowStore.lay #[.int .u32 0, .int .u32 0, .int .u32 0, .int .u32 0, .int .u32 0, .int .u32 0, .int .u32 0, .int .u32 0] 0 s.cells)).heap[k]? = some o := fun k o hk h => (setRow_other _ _ k _ (by omega)).trans ((Below.heap_alloc w1 _ k hk).trans h)
  have HLB := Aside0.mk LB
  have HLO := Aside0.mk LO
  have HLN := Aside0.mk (RowStore.heap_all (cs := s.cells) hN.out rfl)
  clear LB LO hN
  go_loopw [24] (fun v24 wr => ∃ k : Nat, v24 = .int .i64 (k : Int) ∧ k ≤ 64 ∧ Aside0 (wr.heap[w1.heap.size]? = some (.cells (stk s b k).cells 155 (0, 0))) ∧ Aside0 (wr.heap[w.heap.size]? = some (.cells s.cells 155 (0, 0))) ∧ Aside0 (wr.heap[w.heap.size + 1]? = some (.cells (St8.cells ⟨0, 0, 0, 0, 0, 0, 0, 0⟩) 155 (0, 0))) ∧ Aside0 (wr.heap[w.heap.size + 1 + 1]? = some (.cells (wCells b 64) 107 (0, 0))) ∧ Aside0 (Below w.heap.size w wr)) (fun v24 _ => 64 - (intOf v24).toNat)
  case atStart => exact ⟨0, rfl, by omega, HLN, ⟨HLO.out _ _ (by omega) hE.out⟩, ⟨HLO.out _ _ (by omega) hR.out⟩, ⟨HLO.out _ _ (by omega) hW.out⟩, HLB⟩
  case round =>
    obtain ⟨k, rfl, hk, HG, HE, HR, HW, HB⟩ := hrel
    clear HLB HLO HLN hE hR hW hB1
    by_cases hlt : k < 64
    · have d0 : decide ((k : Int) < 64) = true := decide_eq_true (by omega)
      have i1 : (k : Int) < 64 := by omega
      have i2 : (0 : Int) ≤ (k : Int) := by omega
      obtain ⟨xk, hxk⟩ : ∃ xk, (wl b 64).getD k 0 = xk := ⟨_, rfl⟩
      obtain ⟨z, hzk⟩ : ∃ z, stk s b k = z := ⟨_, rfl⟩
      obtain ⟨y, hyk⟩ : ∃ y, stk s b (k + 1) = y := ⟨_, rfl⟩
      have xc : wr.cell? ⟨w.heap.size + 1 + 1, k, none⟩ = some (.int .u32 xk) := (blk_cell HW.out k).trans (hxk ▸ wCells_get b 64 k hlt)
      have hr : ∀ W, CTab W → Calls Tryz.prog 151 #[.agg z.cells, .int .i64 (k : Int), .int .u32 xk] W fun e w' => e = .returned (.agg y.cells) ∧ Below W.heap.size W w' := fun W hW => by
        have h := round_calls z k hlt xk W hW
        rw [← hzk, ← hxk] at h ⊢
        rw [← hyk]
        exact h
      rw [hzk] at HG
      have HY := Aside0.mk hyk
      have HRR := Aside0.mk hr
      clear hxk hzk hyk hr
      go_wp2_with ((with_reducible refine wpList_load_row rfl 155 _ rfl w1.heap.size rfl 155 z.cells (0, 0) _ HG.out Tryz.underlying155 rfl (HI8.out z) ?_))
      refine (HRR.out _ (HT.out.below HB.out)).mono ?_
      rintro en w3 ⟨rfl, hb3⟩
      have HG3 := Aside0.mk (blk_below HG.out hb3)
      have HE3 := Aside0.mk (blk_below HE.out hb3)
      have HR3 := Aside0.mk (blk_below HR.out hb3)
      have HW3 := Aside0.mk (blk_below HW.out hb3)
      have HB3 : Aside0 (Below w.heap.size w w3) := ⟨HB.out.trans (hb3.mono HB.out.size)⟩
      clear xc HRR HG HE HR HW HB hb3
      have hz2 : 0 + y.cells.size ≤ z.cells.size := Nat.le_refl 8
      have hi2 := HI8.out y
      have ho2 := HO8.out y
      go_wp2_with ((with_reducible refine RowStore.wpList_store rfl 155 _ _ rfl w1.heap.size 0 y.cells rfl rfl 155 z.cells HG3.out hz2 hi2 ho2 ?_))
      go_roundw
      case rel => exact ⟨k + 1, by go_num, by omega, ⟨HY.out ▸ RowStore.heap_all HG3.out rfl⟩, ⟨(setRow_other _ _ _ _ (by omega)).trans HE3.out⟩, ⟨(setRow_other _ _ _ _ (by omega)).trans HR3.out⟩, ⟨(setRow_other _ _ _ _ (by omega)).trans HW3.out⟩, ⟨RowStore.below_setRow HB3.out (by omega) _⟩⟩
      case measure => simp [intOf]; omega
    · have d0 : decide ((k : Int) < 64) = false := decide_eq_false (by omega)
      obtain rfl : k = 64 := by omega
      clear hlt hk
      obtain ⟨z, hzk⟩ : ∃ z, stk s b 64 = z := ⟨_, rfl⟩
      rw [hzk] at HG
      have HZ := Aside0.mk hzk
      clear hzk HW
      go_wp2
      obtain ⟨wo, rfl⟩ : ∃ wo : World, wo = wr := ⟨_, rfl⟩
      go_loopw [34] (fun v34 wr => ∃ i : Nat, v34 = .int .i64 (i : Int) ∧ i ≤ 8 ∧ Aside0 (wr.heap[w1.heap.size]? = some (.cells (mixCells z s i) 155 (0, 0))) ∧ Aside0 (wr.heap[w.heap.size]? = some (.cells s.cells 155 (0, 0))) ∧ Aside0 (wr.heap[w.heap.size + 1]? = some (.cells (St8.cells ⟨0, 0, 0, 0, 0, 0, 0, 0⟩) 155 (0, 0))) ∧ Aside0 (Below w.heap.size w wr)) (fun v34 _ => 8 - (intOf v34).toNat)
      case atStart => exact ⟨0, rfl, by omega, HG, HE, HR, HB⟩
      case round =>
        obtain ⟨i, rfl, hi8, HG2, HE2, HR2, HB2⟩ := hrel
        clear HG HE HR HB
        by_cases hlt : i < 8
        · have e0 : decide ((i : Int) < 8) = true := decide_eq_true (by omega)
          have i1 : (i : Int) < 8 := by omega
          have i2 : (0 : Int) ≤ (i : Int) := by omega
          obtain ⟨u, hu⟩ : ∃ u, z.list.getD i 0 = u := ⟨_, rfl⟩
          obtain ⟨v, hv⟩ : ∃ v, s.list.getD i 0 = v := ⟨_, rfl⟩
          have y1 : wr.cell? ⟨w1.heap.size, i, none⟩ = some (.int .u32 u) := (blk_cell HG2.out i).trans (hu ▸ mix_get z s i hlt)
          have y2 : wr.cell? ⟨w.heap.size, i, none⟩ = some (.int .u32 v) := (blk_cell HE2.out i).trans (hv ▸ cells_get s i hlt)
          have hm := mix_set z s i hlt
          rw [hu, hv] at hm
          have HM := Aside0.mk hm
          clear hu hv hm
          go_wp2
          go_still_tail 8, (by kernel_rfl)
          change wpList _ _ _ _ _ wr.drew
          have HG3 := Aside0.mk (show wr.drew.heap[w1.heap.size]? = some (.cells (mixCells z s i) 155 (0, 0)) from HG2.out)
          have HE3 := Aside0.mk (show wr.drew.heap[w.heap.size]? = some (.cells s.cells 155 (0, 0)) from HE2.out)
          have HR3 := Aside0.mk (show wr.drew.heap[w.heap.size + 1]? = some (.cells (St8.cells ⟨0, 0, 0, 0, 0, 0, 0, 0⟩) 155 (0, 0)) from HR2.out)
          have HB3 := Aside0.mk (show Below w.heap.size w wr.drew from HB2.out.drew)
          have hcell : wr.drew.cell? ⟨w1.heap.size, i, none⟩ = some (.int .u32 u) := y1
          have hfro : wr.drew.frozen? ⟨w1.heap.size, i, none⟩ = false := blk_frozen HG3.out i
          generalize wr.drew = w4 at HG3 HE3 HR3 HB3 hcell hfro ⊢
          clear HG2 HE2 HR2 HB2 y1 y2
          have hrelI : Aside0 (∃ i' : Nat, Value.int .i64 ((i : Int) + 1) = .int .i64 (i' : Int) ∧ i' ≤ 8 ∧ Aside0 ((w4.setCell ⟨w1.heap.size, i, none⟩ (.int .u32 ((u + v) % 4294967296))).heap[w1.heap.size]? = some (.cells (mixCells z s i') 155 (0, 0))) ∧ Aside0 ((w4.setCell ⟨w1.heap.size, i, none⟩ (.int .u32 ((u + v) % 4294967296))).heap[w.heap.size]? = some (.cells s.cells 155 (0, 0))) ∧ Aside0 ((w4.setCell ⟨w1.heap.size, i, none⟩ (.int .u32 ((u + v) % 4294967296))).heap[w.heap.size + 1]? = some (.cells (St8.cells ⟨0, 0, 0, 0, 0, 0, 0, 0⟩) 155 (0, 0))) ∧ Aside0 (Below w.heap.size w (w4.setCell ⟨w1.heap.size, i, none⟩ (.int .u32 ((u + v) % 4294967296))))) := ⟨by
            refine ⟨i + 1, by go_num, by omega, ⟨?_⟩, ⟨(heap_setCell_other _ _ _ _ (by show w.heap.size ≠ w1.heap.size; omega)).trans HE3.out⟩, ⟨(heap_setCell_other _ _ _ _ (by show w.heap.size + 1 ≠ w1.heap.size; omega)).trans HR3.out⟩, ⟨HB3.out.setCell (by show w.heap.size ≤ w1.heap.size; omega) _⟩⟩
            rw [heap_setCell_same _ _ i _ _ _ HG3.out, HM.out]⟩
          go_wp2
          go_roundw
          case rel => first | exact hrelI.out | ((repeat apply Exists.intro); exact ⟨hrelI.out, rfl⟩)
          case measure => simp [intOf]; omega
        · have e0 : decide ((i : Int) < 8) = false := decide_eq_false (by omega)
          obtain rfl : i = 8 := by omega
          clear hlt hi8
          have HG3 : Aside0 (wr.heap[w1.heap.size]? = some (.cells (addX z s).cells 155 (0, 0))) := ⟨HG2.out⟩
          have hi2 := HI8.out (addX z s)
          have ho2 := HO8.out (addX z s)
          have hz2 : 0 + (addX z s).cells.size ≤ (St8.cells ⟨0, 0, 0, 0, 0, 0, 0, 0⟩).size := Nat.le_refl 8
          go_wp2_with (first | (with_reducible refine wpList_load_row rfl 155 _ rfl w1.heap.size rfl 155 (addX z s).cells (0, 0) _ HG3.out Tryz.underlying155 rfl hi2 ?_) | (with_reducible refine RowStore.wpList_store rfl 155 _ _ rfl (w.heap.size + 1) 0 (addX z s).cells rfl rfl 155 (St8.cells ⟨0, 0, 0, 0, 0, 0, 0, 0⟩) HR2.out hz2 hi2 ho2 ?_))
          refine bodyPost_ret (results_ct rfl _ _ (w.heap.size + 1) 155 (addX z s).cells (0, 0) _ rfl (RowStore.heap_all HR2.out rfl) Tryz.underlying155 rfl hi2) rfl ⟨?_, RowStore.below_setRow HB2.out (by omega) _⟩
          rw [nextX, HZ.out]
          rfl
end Go.Proofs.YtfijhbfdkcajjaaGreatDoor.Sh

/- The contracts of block.First, sha.New, none, Copy, sha.digest. -/
namespace Go.Proofs.YtfijhbfdkcajjaaGreatDoor.Sh
open Go.RowKit Go.Proofs.YtfijhbfdkcajjaaGreatDoorW.PrintWords Go.Proofs.YtfijhbfdkcajjaaGreatDoorW.PrintLast Go.Proofs.YtfijhbfdkcajjaaGreatDoorW.PrintMore
set_option linter.unusedVariables false
set_option linter.unusedSimpArgs false
/-- The first state. -/
def st0 : St8 := ⟨1779033703, 3144134277, 1013904242, 2773480762, 1359893119, 2600822924, 528734635, 1541459225⟩
set_option maxRecDepth 100000 in
theorem first_calls (w : World) : Calls Tryz.prog 123 #[] w fun e w' => e = .returned (.agg st0.cells) ∧ Below w.heap.size w w' := by
  have hI : (Tryz.prog.info? 155).map (·.size) = some st0.cells.size := by kernel_rfl
  go_enter Tryz.func123, Tryz.ntmps123
  go_wp2
  refine bodyPost_ret (results_cell_row rfl _ _ w.heap.size 155 st0.cells (0, 0) _ rfl (blk_new w (.cells st0.cells 155 (0, 0))) Tryz.underlying155 rfl hI) rfl ⟨rfl, (Below.refl _ _).alloc (Nat.le_refl _) _⟩
/-- A running digest's cells. -/
def shaCells (made : Bool) (s : St8) (rest : ByteArray) (n : Int) : Array Value := #[.bool made, .int .u32 s.a, .int .u32 s.b, .int .u32 s.c, .int .u32 s.d, .int .u32 s.e, .int .u32 s.f, .int .u32 s.g, .int .u32 s.h, .string rest, .int .u64 n]
/-- Block B is a running digest. -/
def IsSha (w : World) (B : Nat) (s : St8) (rest : ByteArray) (n : Int) : Prop := w.heap[B]? = some (.cells (shaCells true s rest n) 158 (0, 0))
theorem IsSha.lt {w : World} {B : Nat} {s : St8} {rest : ByteArray} {n : Int} (h : IsSha w B s rest n) : B < w.heap.size := blk_lt h
theorem IsSha.below {w w' : World} {B : Nat} {s : St8} {rest : ByteArray} {n : Int} (h : IsSha w B s rest n) (hb : Below w.heap.size w w') : IsSha w' B s rest n := blk_below h hb
set_option maxRecDepth 100000 in
theorem sha_new (w : World) : Calls Tryz.prog 103 #[] w fun e w' => ∃ B, w.heap.size ≤ B ∧ e = .returned (.pointer (some ⟨B, 0, none⟩)) ∧ IsSha w' B st0 ⟨#[]⟩ 0 ∧ Below w.heap.size w w' := by
  go_enter Tryz.func103, Tryz.ntmps103
  go_wp2_with fail
  refine (first_calls _).mono ?_
  rintro en w1 ⟨rfl, hb⟩
  simp only [st0, St8.cells]
  go_wp2
  go_ret
  exact ⟨w1.heap.size, hb.size, rfl, blk_new w1 (.cells (shaCells true st0 ⟨#[]⟩ 0) 158 (0, 0)), hb.alloc hb.size _⟩
set_option maxRecDepth 100000 in
theorem sha_none (w : World) (B : Nat) (s : St8) (rest : ByteArray) (n : Int) (h : IsSha w B s rest n) : Calls Tryz.prog 124 #[.pointer (some ⟨B, 0, none⟩)] w fun e w' => e = .returned (.bool false) ∧ w' = w := by
  have hc : w.cell? ⟨B, 0, none⟩ = some (.bool true) := (blk_cell h 0).trans rfl
  clear h
  go_enter Tryz.func124, Tryz.ntmps124
  go_wp2
  go_ret
  exact ⟨rfl, rfl⟩
set_option maxRecDepth 100000 in
theorem sha_copy (w : World) (B : Nat) (s : St8) (rest : ByteArray) (n : Int) (h : IsSha w B s rest n) : Calls Tryz.prog 126 #[.pointer (some ⟨B, 0, none⟩)] w fun e w' => e = .returned (.pointer (some ⟨w.heap.size, 0, none⟩)) ∧ IsSha w' w.heap.size s rest n ∧ Below w.heap.size w w' := by
  have H : Aside0 (w.heap[B]? = some (.cells (shaCells true s rest n) 158 (0, 0))) := ⟨h⟩
  have hI : (Tryz.prog.info? 158).map (·.size) = some (shaCells true s rest n).size := by kernel_rfl
  have ho : (shaCells true s rest n).all (·.oneCell') = true := by simp [shaCells, Value.oneCell']
  have hZ : Aside0 ((w.alloc (.cells (shaCells false ⟨0, 0, 0, 0, 0, 0, 0, 0⟩ ⟨#[]⟩ 0) 158)).heap[w.heap.size]? = some (.cells (shaCells false ⟨0, 0, 0, 0, 0, 0, 0, 0⟩ ⟨#[]⟩ 0) 158 (0, 0))) := ⟨blk_new w _⟩
  have hz : 0 + (shaCells true s rest n).size ≤ (shaCells false ⟨0, 0, 0, 0, 0, 0, 0, 0⟩ ⟨#[]⟩ 0).size := Nat.le_refl 11
  clear h
  go_enter Tryz.func126, Tryz.ntmps126
  go_wp2_with (first | (with_reducible refine wpList_load_row rfl 158 _ rfl B rfl 158 (shaCells true s rest n) (0, 0) _ H.out Tryz.underlying158 rfl hI ?_) | (refine RowStore.wpList_store rfl 158 _ _ rfl w.heap.size 0 (shaCells true s rest n) rfl rfl 158 _ hZ.out hz hI ho ?_))
  go_ret
  exact ⟨rfl, RowStore.heap_all hZ.out rfl, RowStore.below_setRow ((Below.refl _ _).alloc (Nat.le_refl _) _) (Nat.le_refl _) _⟩
/-- A word's bytes, the greatest first. -/
def wordBytes (x : Int) : List Int := [x / 16777216 % 256, x / 65536 % 256, x / 256 % 256, x % 256]
end Go.Proofs.YtfijhbfdkcajjaaGreatDoor.Sh

/- The contract of sha.digest. -/
namespace Go.Proofs.YtfijhbfdkcajjaaGreatDoor.Sh
open Go.RowKit Go.Proofs.YtfijhbfdkcajjaaGreatDoorW.PrintWords Go.Proofs.YtfijhbfdkcajjaaGreatDoorW.PrintLast Go.Proofs.YtfijhbfdkcajjaaGreatDoorW.PrintMore
set_option linter.unusedVariables false
set_option linter.unusedSimpArgs false
/-- A state's bytes. -/
def stateBytes (s : St8) : List Int := s.list.flatMap wordBytes
theorem bytes_len (l : List Int) : (l.flatMap wordBytes).length = 4 * l.length := by
  induction l with
  | nil => rfl
  | cons x l ih => simp [List.flatMap_cons, wordBytes, ih]; omega
set_option maxRecDepth 100000 in
theorem cells_index (s : St8) (i : Nat) (hi : i < 8) : ∀ w, (Instr.index 155 (.agg s.cells) (.int .i64 (i : Int))).run Tryz.prog w = .ok (.int .u32 (s.list.getD i 0)) w := by
  match i, hi with
  | 0, _ => exact fun w => by kernel_rfl
  | 1, _ => exact fun w => by kernel_rfl
  | 2, _ => exact fun w => by kernel_rfl
  | 3, _ => exact fun w => by kernel_rfl
  | 4, _ => exact fun w => by kernel_rfl
  | 5, _ => exact fun w => by kernel_rfl
  | 6, _ => exact fun w => by kernel_rfl
  | 7, _ => exact fun w => by kernel_rfl
theorem reads4 (W : World) (x : Int) : ReadsInt (W.alloc (.cells #[.int .u8 (x / 16777216 % 256), .int .u8 (x / 65536 % 256), .int .u8 (x / 256 % 256), .int .u8 (x % 256)] 5)) .u8 (some ⟨W.heap.size, 0, none⟩) 4 (wordBytes x) := by
  refine ⟨rfl, by decide, fun _ => ⟨_, rfl, fun j hj => ?_⟩⟩
  rw [add_plain, blk_cell (blk_new W (.cells #[.int .u8 (x / 16777216 % 256), .int .u8 (x / 65536 % 256), .int .u8 (x / 256 % 256), .int .u8 (x % 256)] 5 (0, 0)))]
  match j, hj with
  | 0, _ => rfl
  | 1, _ => rfl
  | 2, _ => rfl
  | 3, _ => rfl
theorem take_step (s : St8) (i : Nat) (hi : i < 8) : (s.list.take (i + 1)).flatMap wordBytes = (s.list.take i).flatMap wordBytes ++ wordBytes (s.list.getD i 0) := by
  have hl : i < s.list.length := hi
  rw [List.take_succ_eq_append_getElem hl, List.flatMap_append, List.getD_eq_getElem?_getD, List.getElem?_eq_getElem hl]
  simp
set_option maxHeartbeats 4000000 in
set_option maxRecDepth 100000 in
theorem digest_calls (s : St8) (w : World) : Calls Tryz.prog 128 #[.agg s.cells] w fun e w' => e = .returned (.string (strOfNums (stateBytes s))) ∧ Below w.heap.size w w' := by
  have hI : (Tryz.prog.info? 155).map (·.size) = some s.cells.size := by kernel_rfl
  have hE : Aside0 ((w.alloc (.cells s.cells 155)).heap[w.heap.size]? = some (.cells s.cells 155 (0, 0))) := ⟨blk_new w _⟩
  have hinfo : Aside0 ((Tryz.prog.info? 5).map (fun i => (i.zero, i.size, i.bytes)) = some (some (.int .u8 0), 1, 1)) := ⟨by kernel_rfl⟩
  go_enter Tryz.func128, Tryz.ntmps128
  go_wp2_with ((with_reducible refine wpList_load_row rfl 155 _ rfl w.heap.size rfl 155 s.cells (0, 0) _ hE.out Tryz.underlying155 rfl hI ?_))
  go_loopw [3, 7] (fun v3 v7 wr => ∃ i : Nat, v7 = .int .i64 (i : Int) ∧ i ≤ 8 ∧ Aside0 (wr.ownsRow w.heap.size 5 1 v3 ((s.list.take i).flatMap wordBytes).length (nums .u8 ((s.list.take i).flatMap wordBytes))) ∧ Aside0 (Below w.heap.size w wr)) (fun _ v7 _ => 8 - (intOf v7).toNat)
  case atStart => exact ⟨0, rfl, by omega, ⟨⟨rfl, .inl ⟨rfl, rfl⟩⟩⟩, ⟨(Below.refl _ _).alloc (Nat.le_refl _) _⟩⟩
  case round =>
    obtain ⟨i, rfl, hi, HO, HB⟩ := hrel
    by_cases hlt : i < 8
    · have d0 : decide ((i : Int) < 8) = true := decide_eq_true (by omega)
      have i1 : (i : Int) < 8 := by omega
      have i2 : (0 : Int) ≤ (i : Int) := by omega
      have hx := cells_index s i hlt
      have hts := take_step s i hlt
      have hlen : ((s.list.take i).flatMap wordBytes).length ≤ 32 := by rw [bytes_len]; simp [St8.list]; omega
      generalize (s.list.take i).flatMap wordBytes = bs at HO hts hlen
      generalize s.list.getD i 0 = x at hx hts
      have HTS := Aside0.mk hts
      clear hts hlt
      obtain ⟨A3, c3, rfl⟩ := own_slice HO.out
      have HO1 := Aside0.mk (HO.out.alloc (.cells #[.int .u8 (x / 16777216 % 256), .int .u8 (x / 65536 % 256), .int .u8 (x / 256 % 256), .int .u8 (x % 256)] 5 (0, 0)))
      have HB1 : Aside0 (Below w.heap.size w (wr.alloc (.cells #[.int .u8 (x / 16777216 % 256), .int .u8 (x / 65536 % 256), .int .u8 (x / 256 % 256), .int .u8 (x % 256)] 5))) := ⟨HB.out.alloc HB.out.size _⟩
      have hl2 : (bs.length + 4) * 1 ≤ 140737488355328 := by omega
      have HL := Aside0.mk (HB1.out.size)
      have HL2 := Aside0.mk hl2
      clear HO HB hl2 hlen
      go_wp2_with (at_builtin; refine print_append_row w.heap.size rfl (.tmp 10) (.tmp 22) 82 5 .u8 1 rfl Tryz.underlying82 hinfo.out (by decide) (.slice A3 bs.length c3) bs (wordBytes x) (some ⟨wr.heap.size, 0, none⟩) 4 4 rfl rfl HO1.out (reads4 wr x) HB1.out HL.out HL2.out ?_; intro v1 w1 hown hB hg hat)
      go_roundw
      case rel => exact ⟨i + 1, by go_num, by omega, ⟨by rw [HTS.out]; exact hown⟩, ⟨hB⟩⟩
      case measure => simp [intOf]; omega
    · have d0 : decide ((i : Int) < 8) = false := decide_eq_false (by omega)
      obtain rfl : i = 8 := by omega
      have hcv := own_string Tryz.underlying82 Tryz.underlying5 Tryz.underlying9 HO.out
      have hst : (s.list.take 8).flatMap wordBytes = stateBytes s := rfl
      rw [hst] at hcv
      go_wp2
      go_ret
      exact ⟨rfl, HB.out⟩
end Go.Proofs.YtfijhbfdkcajjaaGreatDoor.Sh

/- The contracts of (*strings.Builder).WriteByte (by hand: this program's dump names fewer types than the shelf's laying asks). -/
set_option linter.unusedVariables false
namespace Go.Proofs.YtfijhbfdkcajjaaGreatDoor.Sh
open Go.RowKit
theorem sizeBuilder : (Tryz.prog.info? 168).map (·.size) = some 2 := by kernel_rfl
set_option maxHeartbeats 1000000 in
set_option maxRecDepth 100000 in
theorem copyCheck_used (b : Nat) (w : World) (h0 : w.cell? ⟨b, 0, none⟩ = some (.pointer (some ⟨b, 0, none⟩))) :
    Calls Tryz.prog 147 #[.pointer (some ⟨b, 0, none⟩)] w fun e w' => e = .returned (.tuple #[]) ∧ w' = w := by
  obtain ⟨j, hj, _⟩ := Option.map_eq_some_iff.1 sizeBuilder
  go_enter Tryz.func147, Tryz.ntmps147
  go_wp2
  rw [Lib.run_neq_ptr_same w _ Tryz.underlying166 hj]
  go_wp2
  go_end0
  exact ⟨rfl, rfl⟩
theorem liesBuilder : liesAt Tryz.prog Tryz.prog.depth 168 (2 / Tryz.prog.cellsOf 168) 0 168 1 = true := by kernel_rfl
theorem infoByte : (Tryz.prog.info? 5).map (fun i => (i.zero, i.size, i.bytes)) = some (some (.int .u8 0), 1, 1) := by kernel_rfl
set_option maxHeartbeats 1000000 in
set_option maxRecDepth 100000 in
theorem copyCheck_fresh (b : Nat) (w : World) (h0 : w.cell? ⟨b, 0, none⟩ = some (.pointer none)) (hsh : w.shape? b = some (168, 2)) (hfz : w.frozen? ⟨b, 0, none⟩ = false) :
    Calls Tryz.prog 147 #[.pointer (some ⟨b, 0, none⟩)] w fun e w' => e = .returned (.tuple #[]) ∧ w' = w.setCell ⟨b, 0, none⟩ (.pointer (some ⟨b, 0, none⟩)) := by
  obtain ⟨j, hj, hjs⟩ := Option.map_eq_some_iff.1 sizeBuilder
  go_enter Tryz.func147, Tryz.ntmps147
  go_wp2
  rw [Lib.run_to_unsafe w ⟨b, 0, none⟩ Tryz.underlying166 Tryz.underlying190 hj (by rw [hjs]; decide) hsh (Nat.zero_lt_succ 1)]
  simp only [Result.andThen]
  rw [Oper.upon_value]
  go_wp2
  rw [run_callFunc_extern Tryz.func153 (by kernel_rfl) (by kernel_rfl) (by kernel_rfl) (e := Extern.AbiNoEscape.same) (by kernel_rfl)]
  rw [Lib.run_noEscape]
  simp only [Result.andThen]
  rw [Oper.upon_value]
  go_wp2
  rw [Lib.run_from_unsafe w ⟨b, 0, none⟩ Tryz.underlying190 Tryz.underlying166 hj hsh liesBuilder]
  simp only [Result.andThen]
  rw [Oper.upon_value]
  go_wp2
  go_end0
  exact ⟨rfl, rfl⟩
theorem copyCheck_calls (B b : Nat) (bs : List Value) (w : World) (h : Lib.IsBuilder 168 5 B b bs w) :
    Calls Tryz.prog 147 #[.pointer (some ⟨b, 0, none⟩)] w fun e w' => e = .returned (.tuple #[]) ∧ (Lib.BuilderAt 168 5 B b (.pointer (some ⟨b, 0, none⟩)) bs w' ∧ Below B w w') := by
  rcases h with h | h
  · refine (copyCheck_fresh b w h.cell0 h.shape h.frozen0).mono ?_
    rintro e w' ⟨rfl, rfl⟩
    exact ⟨rfl, h.used _, (Below.refl B w).setCell (p := ⟨b, 0, none⟩) h.1 _⟩
  · refine (copyCheck_used b w h.cell0).mono ?_
    rintro e w' ⟨rfl, rfl⟩
    exact ⟨rfl, h, Below.refl B _⟩
set_option maxHeartbeats 2000000 in
set_option maxRecDepth 100000 in
theorem writeByte_calls (B b : Nat) (bs : List Value) (c : Int) (w : World) (h : Lib.IsBuilder 168 5 B b bs w) (hlen : bs.length + 1 ≤ 140737488355328) (hBw : B ≤ w.heap.size) :
    Calls Tryz.prog 141 #[.pointer (some ⟨b, 0, none⟩), .int .u8 c] w fun e w' => e = .returned .nilIface ∧ (Lib.IsBuilder 168 5 B b (bs ++ [.int .u8 c]) w' ∧ Below B w w') := by
  obtain ⟨i0, hi, hz0, hz1, hz2⟩ := info_parts infoByte
  go_enter Tryz.func141, Tryz.ntmps141
  go_wp2_with fail
  refine (copyCheck_calls B b bs _ h).mono ?_
  rintro e w1 ⟨rfl, h1, hb1⟩
  obtain ⟨hB, v, hbk, hown, hne⟩ := h1
  have c0 : w1.cell? ⟨b, 0, none⟩ = some (.pointer (some ⟨b, 0, none⟩)) := by rw [Lib.cell_of_heap hbk]; rfl
  have c1 : w1.cell? ⟨b, 1, none⟩ = some v := by rw [Lib.cell_of_heap hbk]; rfl
  go_wp2_with (at_builtin; refine wpList_append_own _ rfl _ _ 82 rfl B 5 i0 (.int .u8 0) 1 1 Tryz.underlying82 hi hz0 hz1 hz2 rfl (by decide) _ _ _ rfl (hown.alloc _) ⟨w1.heap.size, 0, none⟩ 1 1 [.int .u8 c] rfl rfl ?c1 ?c2 ?c3 ?c4 ?c5 ?_)
  case c1 =>
    intro j u hj
    match j, hj with
    | 0, hj => simp at hj; subst hj; simp [Addr.add]
  case c2 => intro u hu; simp at hu; subst hu; rfl
  case c3 => unfold maxLen; omega
  case c4 => omega
  case c5 => have := hb1.size; simp; omega
  intro v' w2 hown' hgrow _
  have hlt : b < w1.heap.size := by
    rcases Nat.lt_or_ge b w1.heap.size with h' | h'
    · exact h'
    · simp [Array.getElem?_eq_none h'] at hbk
  have hb2 : w2.heap[b]? = some (.cells #[.pointer (some ⟨b, 0, none⟩), v] 168 (0, 0)) := by
    rw [hgrow.block b (by simp; omega) (fun e => hne e.symm), Lib.alloc_old w1 _ b hlt]
    exact hbk
  have d0 : w2.cell? ⟨b, 0, none⟩ = some (.pointer (some ⟨b, 0, none⟩)) := by rw [Lib.cell_of_heap hb2]; rfl
  have d1 : w2.cell? ⟨b, 1, none⟩ = some v := by rw [Lib.cell_of_heap hb2]; rfl
  have f1 : w2.frozen? ⟨b, 1, none⟩ = false := Lib.frozen_of_heap hb2 1
  obtain ⟨g, cap, rfl⟩ : ∃ g cap, v' = .slice (some ⟨g, 0, none⟩) (bs.length + 1) cap := by
    rcases hown'.2 with ⟨_, h0⟩ | ⟨g, cap, cur, hv, _⟩
    · omega
    · exact ⟨g, cap, hv⟩
  go_wp2
  go_ret
  refine ⟨rfl, .inr ?_, ?_⟩
  · exact Lib.BuilderAt.put (T := 168) (e := 5) hB hb2 (bs' := bs ++ [.int .u8 c]) (by simpa using hown') (by decide)
  · exact ((hb1.alloc (by have := hb1.size; omega) _).grown hgrow (by have := hb1.size; simp; omega) (fun k hk => (hown.lt k hk).1)).setCell (p := ⟨b, 1, none⟩) hB _
end Go.Proofs.YtfijhbfdkcajjaaGreatDoor.Sh

/-
  DERIVED: THE SHELF's CONTRACTS AT THIS DUMP, IN PLAIN WORDS (tools/lay-plain.mjs out of 'YtfijhbfdkcajjaaGreatDoorShCTry.lean', which tools/lay-shelf.mjs wrote): THE SAME DECLARATIONS UNDER THE SAME NAMES: 'import', 'namespace', 'open', 'def', 'theorem' AND NOTHING ELSE: no command of the shelf's: FOR A HAND-IN. Each laying: the table of numbers ('.._ren') and one theorem, a field a fact of the dump's own or the kernel's comparison; each contract: ONE APPLICATION.
-/
namespace Go.Proofs
open Go.Shelf
def Tryz.lays170_ren : Go.Shelf.Ren := ⟨fun | 170 => 136 | n => n, fun | 70 => 166 | 3 => 3 | 0 => 0 | 72 => 168 | 37 => 82 | 5 => 5 | n => n, fun | n => n⟩
theorem Tryz.lays170 : Go.Proofs.Lays.n170 Tryz.prog Tryz.lays170_ren := {
  mixed := by kernel_rfl
  f170 := Tryz.func136.trans (congrArg some (by kernel_rfl))
  t0 := Tryz.underlying0
  a0 := Tryz.isAgg0
  z0 := Tryz.sizeOf0
  v0 := Tryz.zeroValue0
  t3 := Tryz.underlying3
  a3 := Tryz.isAgg3
  z3 := Tryz.sizeOf3
  v3 := Tryz.zeroValue3
  t37 := Tryz.underlying82
  a37 := Tryz.isAgg82
  z37 := Tryz.sizeOf82
  v37 := Tryz.zeroValue82
  t70 := Tryz.underlying166
  a70 := Tryz.isAgg166
  z70 := Tryz.sizeOf166
  v70 := Tryz.zeroValue166
  t72 := Tryz.underlying168
  a72 := Tryz.isAgg168
  z72 := Tryz.sizeOf168
  v72 := Tryz.zeroValue168 }
open Go.RowKit in
/-- (*strings.Builder).Len: "Len returns the number of accumulated bytes; b.Len() == len(b.String()).": the world is as it was. (LAID: no walk: one application.) -/
theorem Tryz.Builder_Len (B b : Nat) (bs : List Value) (w : World) (h : Lib.IsBuilder 168 5 B b bs w) :
    Calls Tryz.prog 136 #[.pointer (some ⟨b, 0, none⟩)] w fun e w' => e = .returned (.int .i64 bs.length) ∧ w' = w := Any.Builder_Len Tryz.lays170 B b bs w h
def Tryz.lays169_ren : Go.Shelf.Ren := ⟨fun | 169 => 137 | n => n, fun | 70 => 166 | 9 => 9 | 0 => 0 | 72 => 168 | 37 => 82 | 127 => 185 | 3 => 3 | 5 => 5 | n => n, fun | n => n⟩
theorem Tryz.lays169 : Go.Proofs.Lays.n169 Tryz.prog Tryz.lays169_ren := {
  mixed := by kernel_rfl
  f169 := Tryz.func137.trans (congrArg some (by kernel_rfl))
  t0 := Tryz.underlying0
  a0 := Tryz.isAgg0
  z0 := Tryz.sizeOf0
  v0 := Tryz.zeroValue0
  t3 := Tryz.underlying3
  a3 := Tryz.isAgg3
  z3 := Tryz.sizeOf3
  v3 := Tryz.zeroValue3
  t9 := Tryz.underlying9
  a9 := Tryz.isAgg9
  z9 := Tryz.sizeOf9
  v9 := Tryz.zeroValue9
  t37 := Tryz.underlying82
  a37 := Tryz.isAgg82
  z37 := Tryz.sizeOf82
  v37 := Tryz.zeroValue82
  t70 := Tryz.underlying166
  a70 := Tryz.isAgg166
  z70 := Tryz.sizeOf166
  v70 := Tryz.zeroValue166
  t72 := Tryz.underlying168
  a72 := Tryz.isAgg168
  z72 := Tryz.sizeOf168
  v72 := Tryz.zeroValue168
  t127 := Tryz.underlying185
  a127 := Tryz.isAgg185
  z127 := Tryz.sizeOf185
  v127 := Tryz.zeroValue185 }
theorem Tryz.Builder_Extra_169 : Builder.Extra Tryz.prog Tryz.lays169_ren := {
  sizeBuilder := by kernel_rfl
  liesBuilder := by kernel_rfl
  t5 := Tryz.underlying5
  a5 := Tryz.isAgg5
  z5 := Tryz.sizeOf5
  v5 := Tryz.zeroValue5
  infoByte := by kernel_rfl
  cellsByte := by kernel_rfl
  sizeByte := by kernel_rfl
  neB5 := by decide }
open Go.RowKit in
/-- (*strings.Builder).String: "String returns the accumulated string.": WHATEVER THE BUILDER HOLDS. (LAID: no walk: one application.) -/
theorem Tryz.Builder_String_any (B b : Nat) (l : List UInt8) (w : World) (h : Lib.IsBuilder 168 5 B b (Lib.byteCells l) w) (hBw : B ≤ w.heap.size) :
    Calls Tryz.prog 137 #[.pointer (some ⟨b, 0, none⟩)] w fun e w' => e = .returned (.string ⟨l.toArray⟩) ∧ Below B w w' := Any.Builder_String_any Tryz.lays169 Tryz.Builder_Extra_169 B b l w h hBw
end Go.Proofs

/- The contract of sha.Padding. -/
namespace Go.Proofs.YtfijhbfdkcajjaaGreatDoor.Sh
open Go.RowKit Go.Proofs.YtfijhbfdkcajjaaGreatDoorW.PrintWords Go.Proofs.YtfijhbfdkcajjaaGreatDoorW.PrintLast Go.Proofs.YtfijhbfdkcajjaaGreatDoorW.PrintMore
set_option linter.unusedVariables false
set_option linter.unusedSimpArgs false
/-- How many zeros stand in a padding. -/
def zeros (n : Nat) : Nat := (119 - n % 64) % 64
def lenByte (n j : Nat) : UInt8 := UInt8.ofNat (n * 8 / 2 ^ (56 - 8 * j))
/-- What is put behind a text of n bytes. -/
def padB (n : Nat) : List UInt8 := 128 :: (List.replicate (zeros n) 0 ++ (List.range 8).map (lenByte n))
def padPre (n : Nat) (k : Nat) : List UInt8 := 128 :: List.replicate k 0
theorem byteCells_snoc (l : List UInt8) (c : UInt8) : Lib.byteCells l ++ [.int .u8 (c.toNat : Int)] = Lib.byteCells (l ++ [c]) := by simp [Lib.byteCells]
theorem byteCells_len (l : List UInt8) : (Lib.byteCells l).length = l.length := by simp [Lib.byteCells]
theorem len_snoc (n j : Nat) (hj : j < 8) (K : Nat) (hK : 2 ^ (56 - 8 * j) = K) (c : Int) (hc : c = ((n * 8 / K % 256 : Nat) : Int)) :
    Lib.byteCells (padPre n (zeros n) ++ ((List.range 8).map (lenByte n)).take j) ++ [.int .u8 c] = Lib.byteCells (padPre n (zeros n) ++ ((List.range 8).map (lenByte n)).take (j + 1)) := by
  have h1 : ((lenByte n j).toNat : Int) = c := by
    rw [hc]; unfold lenByte; rw [hK]; simp
  rw [← h1, byteCells_snoc, List.append_assoc]
  have hl : j < ((List.range 8).map (lenByte n)).length := by simpa using hj
  rw [List.take_succ_eq_append_getElem hl]
  simp
set_option maxHeartbeats 8000000 in
set_option maxRecDepth 100000 in
theorem padding_calls (n : Nat) (hn : n < 1152921504606846976) (w : World) : Calls Tryz.prog 127 #[.int .u64 (n : Int)] w fun e w' => e = .returned (.string ⟨(padB n).toArray⟩) ∧ Below w.heap.size w w' := by
  have h0 : Lib.IsBuilder 168 5 w.heap.size w.heap.size [] (w.alloc (.cells #[.pointer none, .slice none 0 0] 168)) := .inl ⟨Nat.le_refl _, _, blk_new w (.cells #[.pointer none, .slice none 0 0] 168 (0, 0)), ⟨rfl, .inl ⟨rfl, rfl⟩⟩, by simp [Value.ownBlock]⟩
  have H0 := Aside0.mk h0
  have hm : ((119 - (n : Int) % 64) % 64) = ((zeros n : Nat) : Int) := by unfold zeros; omega
  have hz : zeros n < 64 := Nat.mod_lt _ (by decide)
  clear h0
  go_enter Tryz.func127, Tryz.ntmps127
  go_wp2_with fail
  refine (writeByte_calls w.heap.size w.heap.size [] 128 _ H0.out (by simp) (by simp)).mono ?_
  rintro e w1 ⟨rfl, hbd, hb⟩
  have HBD : Aside0 (Lib.IsBuilder 168 5 w.heap.size w.heap.size (Lib.byteCells (padPre n 0)) w1) := ⟨hbd⟩
  have HB : Aside0 (Below w.heap.size w w1) := ⟨((Below.refl _ _).alloc (Nat.le_refl _) _).trans hb⟩
  clear H0 hbd hb
  go_wp2_with fail
  go_loopg [] (zeros n) (fun k wr => ∃ q, q + k = zeros n ∧ Aside0 (Lib.IsBuilder 168 5 w.heap.size w.heap.size (Lib.byteCells (padPre n q)) wr) ∧ Aside0 (Below w.heap.size w wr))
  case atStart => exact ⟨0, by omega, HBD, HB⟩
  case round =>
    obtain ⟨q, hq, HBD2, HB2⟩ := hrel
    clear HBD HB
    have hlen : ((Lib.byteCells (padPre n q)).length : Int) = (q : Int) + 1 := by rw [byteCells_len]; simp [padPre]
    have hL : ∀ W, Lib.IsBuilder 168 5 w.heap.size w.heap.size (Lib.byteCells (padPre n q)) W → Calls Tryz.prog 136 #[.pointer (some ⟨w.heap.size, 0, none⟩)] W fun e w' => e = .returned (.int .i64 ((q : Int) + 1)) ∧ w' = W := fun W h => by
      have := Tryz.Builder_Len _ _ _ _ h
      rw [hlen] at this
      exact this
    have HL := Aside0.mk hL
    have HLen := Aside0.mk hlen
    clear hL hlen
    by_cases hlt : q < zeros n
    · have d0 : decide ((q : Int) + 1 < 1 + ((zeros n : Nat) : Int)) = true := decide_eq_true (by omega)
      go_wp2_with fail
      refine (HL.out _ HBD2.out).mono ?_
      rintro e w2 ⟨rfl, hw2⟩
      subst hw2
      go_wp2_with fail
      refine (writeByte_calls w.heap.size w.heap.size _ 0 _ HBD2.out (by have := HLen.out; omega) HB2.out.size).mono ?_
      rintro e w3 ⟨rfl, hbd, hb⟩
      have hsn : Lib.byteCells (padPre n q) ++ [.int .u8 0] = Lib.byteCells (padPre n (q + 1)) := by
        rw [show (Value.int .u8 0) = .int .u8 (((0 : UInt8).toNat : Nat) : Int) from rfl, byteCells_snoc]
        simp [padPre, List.replicate_succ']
      rw [hsn] at hbd
      have HBD3 := Aside0.mk hbd
      have HB3 : Aside0 (Below w.heap.size w w3) := ⟨HB2.out.trans hb⟩
      clear hbd hb hsn HBD2 HB2 HL
      go_wp2
      go_roundg (gk - 1)
      case measure => omega
      case rel => exact ⟨q + 1, by omega, HBD3, HB3⟩
    · obtain rfl : q = zeros n := by omega
      have d0 : decide (((zeros n : Nat) : Int) + 1 < 1 + ((zeros n : Nat) : Int)) = false := decide_eq_false (by omega)
      go_wp2_with fail
      refine (HL.out _ HBD2.out).mono ?_
      rintro e w2 ⟨rfl, hw2⟩
      subst hw2
      clear hlt HL
      go_wp2_with fail
      clear hm
      generalize (119 - (n : Int) % 64) % 64 = y10
      generalize 119 - (n : Int) % 64 = y9
      generalize (n : Int) % 64 = y8
      obtain ⟨wo, rfl⟩ : ∃ wo : World, wo = w2 := ⟨_, rfl⟩
      have HBD3 : Aside0 (Lib.IsBuilder 168 5 w.heap.size w.heap.size (Lib.byteCells (padPre n (zeros n) ++ ((List.range 8).map (lenByte n)).take 0)) wo) := ⟨by simpa using HBD2.out⟩
      go_loopw [4] (fun v4 wr => ∃ j : Nat, v4 = .int .i64 (56 - 8 * (j : Int)) ∧ j ≤ 8 ∧ Aside0 (Lib.IsBuilder 168 5 w.heap.size w.heap.size (Lib.byteCells (padPre n (zeros n) ++ ((List.range 8).map (lenByte n)).take j)) wr) ∧ Aside0 (Below w.heap.size w wr)) (fun v4 _ => (intOf v4 + 8).toNat)
      case atStart => exact ⟨0, rfl, by omega, HBD3, HB2⟩
      case round =>
        obtain ⟨j, rfl, hj, HBD4, HB4⟩ := hrel
        clear HBD3 HBD2 HB2
        by_cases hj8 : j < 8
        · have e8 : (n : Int) * 8 < 18446744073709551616 := by omega
          rcases (show j = 0 ∨ j = 1 ∨ j = 2 ∨ j = 3 ∨ j = 4 ∨ j = 5 ∨ j = 6 ∨ j = 7 by omega) with rfl | rfl | rfl | rfl | rfl | rfl | rfl | rfl
          · go_wp2_with fail
            refine (writeByte_calls w.heap.size w.heap.size _ _ _ HBD4.out (by rw [byteCells_len]; simp [padPre]; omega) HB4.out.size).mono ?_
            rintro e w5 ⟨rfl, hbd, hb⟩
            rw [len_snoc n 0 (by decide) 72057594037927936 rfl ((n : Int) * 8 / 72057594037927936) (by omega)] at hbd
            have HBD5 := Aside0.mk hbd
            have HB5 : Aside0 (Below w.heap.size w w5) := ⟨HB4.out.trans hb⟩
            clear hbd hb
            go_wp2
            go_roundw
            case rel => first | exact ⟨1, rfl, by omega, HBD5, HB5⟩ | ((repeat apply Exists.intro); exact ⟨⟨1, rfl, by omega, HBD5, HB5⟩, rfl⟩)
            case measure => simp [intOf]
          · go_wp2_with fail
            refine (writeByte_calls w.heap.size w.heap.size _ _ _ HBD4.out (by rw [byteCells_len]; simp [padPre]; omega) HB4.out.size).mono ?_
            rintro e w5 ⟨rfl, hbd, hb⟩
            rw [len_snoc n 1 (by decide) 281474976710656 rfl ((n : Int) * 8 / 281474976710656 % 256) (by omega)] at hbd
            have HBD5 := Aside0.mk hbd
            have HB5 : Aside0 (Below w.heap.size w w5) := ⟨HB4.out.trans hb⟩
            clear hbd hb
            go_wp2
            go_roundw
            case rel => first | exact ⟨2, rfl, by omega, HBD5, HB5⟩ | ((repeat apply Exists.intro); exact ⟨⟨2, rfl, by omega, HBD5, HB5⟩, rfl⟩)
            case measure => simp [intOf]
          · go_wp2_with fail
            refine (writeByte_calls w.heap.size w.heap.size _ _ _ HBD4.out (by rw [byteCells_len]; simp [padPre]; omega) HB4.out.size).mono ?_
            rintro e w5 ⟨rfl, hbd, hb⟩
            rw [len_snoc n 2 (by decide) 1099511627776 rfl ((n : Int) * 8 / 1099511627776 % 256) (by omega)] at hbd
            have HBD5 := Aside0.mk hbd
            have HB5 : Aside0 (Below w.heap.size w w5) := ⟨HB4.out.trans hb⟩
            clear hbd hb
            go_wp2
            go_roundw
            case rel => first | exact ⟨3, rfl, by omega, HBD5, HB5⟩ | ((repeat apply Exists.intro); exact ⟨⟨3, rfl, by omega, HBD5, HB5⟩, rfl⟩)
            case measure => simp [intOf]
          · go_wp2_with fail
            refine (writeByte_calls w.heap.size w.heap.size _ _ _ HBD4.out (by rw [byteCells_len]; simp [padPre]; omega) HB4.out.size).mono ?_
            rintro e w5 ⟨rfl, hbd, hb⟩
            rw [len_snoc n 3 (by decide) 4294967296 rfl ((n : Int) * 8 / 4294967296 % 256) (by omega)] at hbd
            have HBD5 := Aside0.mk hbd
            have HB5 : Aside0 (Below w.heap.size w w5) := ⟨HB4.out.trans hb⟩
            clear hbd hb
            go_wp2
            go_roundw
            case rel => first | exact ⟨4, rfl, by omega, HBD5, HB5⟩ | ((repeat apply Exists.intro); exact ⟨⟨4, rfl, by omega, HBD5, HB5⟩, rfl⟩)
            case measure => simp [intOf]
          · go_wp2_with fail
            refine (writeByte_calls w.heap.size w.heap.size _ _ _ HBD4.out (by rw [byteCells_len]; simp [padPre]; omega) HB4.out.size).mono ?_
            rintro e w5 ⟨rfl, hbd, hb⟩
            rw [len_snoc n 4 (by decide) 16777216 rfl ((n : Int) * 8 / 16777216 % 256) (by omega)] at hbd
            have HBD5 := Aside0.mk hbd
            have HB5 : Aside0 (Below w.heap.size w w5) := ⟨HB4.out.trans hb⟩
            clear hbd hb
            go_wp2
            go_roundw
            case rel => first | exact ⟨5, rfl, by omega, HBD5, HB5⟩ | ((repeat apply Exists.intro); exact ⟨⟨5, rfl, by omega, HBD5, HB5⟩, rfl⟩)
            case measure => simp [intOf]
          · go_wp2_with fail
            refine (writeByte_calls w.heap.size w.heap.size _ _ _ HBD4.out (by rw [byteCells_len]; simp [padPre]; omega) HB4.out.size).mono ?_
            rintro e w5 ⟨rfl, hbd, hb⟩
            rw [len_snoc n 5 (by decide) 65536 rfl ((n : Int) * 8 / 65536 % 256) (by omega)] at hbd
            have HBD5 := Aside0.mk hbd
            have HB5 : Aside0 (Below w.heap.size w w5) := ⟨HB4.out.trans hb⟩
            clear hbd hb
            go_wp2
            go_roundw
            case rel => first | exact ⟨6, rfl, by omega, HBD5, HB5⟩ | ((repeat apply Exists.intro); exact ⟨⟨6, rfl, by omega, HBD5, HB5⟩, rfl⟩)
            case measure => simp [intOf]
          · go_wp2_with fail
            refine (writeByte_calls w.heap.size w.heap.size _ _ _ HBD4.out (by rw [byteCells_len]; simp [padPre]; omega) HB4.out.size).mono ?_
            rintro e w5 ⟨rfl, hbd, hb⟩
            rw [len_snoc n 6 (by decide) 256 rfl ((n : Int) * 8 / 256 % 256) (by omega)] at hbd
            have HBD5 := Aside0.mk hbd
            have HB5 : Aside0 (Below w.heap.size w w5) := ⟨HB4.out.trans hb⟩
            clear hbd hb
            go_wp2
            go_roundw
            case rel => first | exact ⟨7, rfl, by omega, HBD5, HB5⟩ | ((repeat apply Exists.intro); exact ⟨⟨7, rfl, by omega, HBD5, HB5⟩, rfl⟩)
            case measure => simp [intOf]
          · go_wp2_with fail
            refine (writeByte_calls w.heap.size w.heap.size _ _ _ HBD4.out (by rw [byteCells_len]; simp [padPre]; omega) HB4.out.size).mono ?_
            rintro e w5 ⟨rfl, hbd, hb⟩
            rw [len_snoc n 7 (by decide) 1 rfl ((n : Int) * 8 % 256) (by omega)] at hbd
            have HBD5 := Aside0.mk hbd
            have HB5 : Aside0 (Below w.heap.size w w5) := ⟨HB4.out.trans hb⟩
            clear hbd hb
            go_wp2
            go_roundw
            case rel => first | exact ⟨8, rfl, by omega, HBD5, HB5⟩ | ((repeat apply Exists.intro); exact ⟨⟨8, rfl, by omega, HBD5, HB5⟩, rfl⟩)
            case measure => simp [intOf]
        · obtain rfl : j = 8 := by omega
          clear hj8 hj
          go_wp2_with fail
          refine (Tryz.Builder_String_any _ _ _ _ HBD4.out HB4.out.size).mono ?_
          rintro e w5 ⟨rfl, hb⟩
          go_wp2
          go_ret
          exact ⟨rfl, HB4.out.trans hb⟩
end Go.Proofs.YtfijhbfdkcajjaaGreatDoor.Sh

/- A law of the walk for 'for x := range seq { .. }' where the iterator has blocks of its own (and may range over iterators itself): what the iterator may turn is named by a set of blocks that grows. -/
namespace Go.IterLaw
open Go Go.RowKit

/-- What an iterator does by itself: it turns blocks of its own (Pv), lays new ones, of which some are its own behind. -/
structure Its (Pv Pv' : Nat → Prop) (W W' : World) : Prop where
  os : W'.os = W.os
  tape : W'.tape = W.tape
  output : W'.output = W.output
  size : W.heap.size ≤ W'.heap.size
  block : ∀ k, k < W.heap.size → ¬ Pv k → W'.heap[k]? = W.heap[k]?
  own : ∀ k, Pv' k → Pv k ∨ (W.heap.size ≤ k ∧ k < W'.heap.size)
  sub : ∀ k, Pv k → Pv' k

theorem Its.refl (Pv : Nat → Prop) (W : World) : Its Pv Pv W W := ⟨rfl, rfl, rfl, Nat.le_refl _, fun _ _ _ => rfl, fun _ h => .inl h, fun _ h => h⟩
theorem Its.trans {Pv Pv' Pv'' : Nat → Prop} {A B C : World} (h : Its Pv Pv' A B) (k : Its Pv' Pv'' B C) : Its Pv Pv'' A C :=
  ⟨k.os.trans h.os, k.tape.trans h.tape, k.output.trans h.output, Nat.le_trans h.size k.size,
    fun i hi hn => (k.block i (Nat.lt_of_lt_of_le hi h.size) (fun hp => (h.own i hp).elim hn (fun e => by omega))).trans (h.block i hi hn),
    fun i hi => (k.own i hi).elim (fun e => (h.own i e).imp id (fun e => ⟨e.1, Nat.lt_of_lt_of_le e.2 k.size⟩)) (fun e => .inr ⟨Nat.le_trans h.size e.1, e.2⟩), fun i hi => k.sub i (h.sub i hi)⟩
/-- A new block of one's own. -/
theorem Its.alloc (Pv : Nat → Prop) (W : World) (o : Obj) : Its Pv (fun k => Pv k ∨ k = W.heap.size) W (W.alloc o) :=
  ⟨rfl, rfl, rfl, by simp, fun k hk _ => Below.heap_alloc W o k hk, fun k hk => hk.imp id (fun e => by subst e; simp), fun _ h => .inl h⟩
theorem Its.drew (Pv : Nat → Prop) (W : World) : Its Pv Pv W W.drew := ⟨rfl, rfl, rfl, Nat.le_refl _, fun _ _ _ => rfl, fun _ h => .inl h, fun _ h => h⟩
theorem Its.drewN (Pv : Nat → Prop) (W : World) (n : Nat) : Its Pv Pv W (W.drewN n) := ⟨rfl, rfl, rfl, Nat.le_refl _, fun _ _ _ => rfl, fun _ h => .inl h, fun _ h => h⟩
/-- A block of one's own is turned. -/
theorem Its.putObj {Pv : Nat → Prop} {W : World} {l : Nat} (o : Obj) (h : Pv l) : Its Pv Pv W (W.putObj l o) :=
  ⟨rfl, rfl, rfl, by simp, fun k _ hn => World.putObj_heap_other (fun e => hn (e ▸ h)), fun _ h => .inl h, fun _ h => h⟩
/-- What lies below is as it was, new blocks lie behind: whatever is new may be called one's own. -/
theorem Its.of_below {Pv : Nat → Prop} {W W' : World} (h : Below W.heap.size W W') : Its Pv Pv W W' :=
  ⟨h.os, h.tape, h.output, h.size, fun k hk _ => h.block k hk, fun _ h => .inl h, fun _ h => h⟩
theorem Its.of_below_own {Pv : Nat → Prop} {W W' : World} (h : Below W.heap.size W W') : Its Pv (fun k => Pv k ∨ (W.heap.size ≤ k ∧ k < W'.heap.size)) W W' :=
  ⟨h.os, h.tape, h.output, h.size, fun k hk _ => h.block k hk, fun _ h => h, fun _ h => .inl h⟩
/-- More may be called one's own. -/
theorem Its.widen {Pv Pv' R : Nat → Prop} {A B : World} (h : Its Pv Pv' A B) : Its (fun k => Pv k ∨ R k) (fun k => Pv' k ∨ R k) A B :=
  ⟨h.os, h.tape, h.output, h.size, fun k hk hn => h.block k hk (fun hp => hn (.inl hp)), fun k hk => hk.elim (fun hp => (h.own k hp).imp .inl id) (fun hr => .inl (.inr hr)), fun k hk => hk.imp (h.sub k) id⟩
theorem Its.below {Pv Pv' : Nat → Prop} {A B : World} {n : Nat} (h : Its Pv Pv' A B) (hn : n ≤ A.heap.size) (hp : ∀ k, Pv k → n ≤ k) : Below n A B :=
  ⟨h.os, h.tape, h.output, h.size, fun k hk => h.block k (by omega) (fun hpk => by have := hp k hpk; omega)⟩

/-- What a round keeps: what lies below n0, and the iterator's own blocks. -/
structure KeptI (n0 : Nat) (Pv : Nat → Prop) (W W' : World) : Prop where
  below : Below n0 W W'
  same : ∀ k, Pv k → k < W.heap.size → W'.heap[k]? = W.heap[k]?
theorem KeptI.refl (n0 : Nat) (Pv : Nat → Prop) (W : World) : KeptI n0 Pv W W := ⟨Below.refl _ _, fun _ _ _ => rfl⟩
theorem KeptI.trans {n0 : Nat} {Pv : Nat → Prop} {A B C : World} (h : KeptI n0 Pv A B) (k : KeptI n0 Pv B C) : KeptI n0 Pv A C :=
  ⟨h.below.trans k.below, fun i hi hl => (k.same i hi (Nat.lt_of_lt_of_le hl h.below.size)).trans (h.same i hi hl)⟩
theorem KeptI.mono {n0 : Nat} {Pv R : Nat → Prop} {A B : World} (h : KeptI n0 Pv A B) (hs : ∀ k, R k → Pv k) : KeptI n0 R A B := ⟨h.below, fun k hk => h.same k (hs k hk)⟩

def AbidesI {β : Type} (J : β → (Nat → Prop) → World → Prop) : Prop := ∀ s Pv Pv' W W', J s Pv W → Its Pv Pv' W W' → J s Pv' W'

/-- One round, as the iterator meets it. -/
def RoundI {α : Type} (P : Program) (l : Nat) (encs : α → Array Value) (n0 : Nat) (S : List α → Prop) (J Jx : List α → (Nat → Prop) → World → Prop) : Prop :=
  ∀ (m : Nat) (pre : List α) (x : α) (Pv : Nat → Prop) (W : World), S (pre ++ [x]) → J pre Pv W →
    YieldAt Fence.wide m P l (encs x) W fun e W' => KeptI n0 Pv W W' ∧ ((e = .returned (.bool true) ∧ J (pre ++ [x]) Pv W') ∨ (e = .returned (.bool false) ∧ Jx (pre ++ [x]) Pv W'))

/-- What an iterator's call comes to: all of xs have come, or a round has said 'no more'. -/
def EndsI {α : Type} (n0 : Nat) (J Jx : List α → (Nat → Prop) → World → Prop) (pre xs : List α) (Pv : Nat → Prop) (W : World) (e : Ending) (W' : World) : Prop :=
  (∃ v, e = .returned v) ∧ ∃ Pv' : Nat → Prop, (∀ k, Pv k → Pv' k) ∧ Below n0 W W' ∧ (J (pre ++ xs) Pv' W' ∨ ∃ q, q <+: xs ∧ Jx (pre ++ q) Pv' W')

def bodyP {α : Type} (n0 : Nat) (Pv : Nat → Prop) (I : List α → (Nat → Prop) → World → Prop) (Ix : Code → List α → (Nat → Prop) → World → Prop) (s : List α) (W : World) : Exit → Act → World → Prop
  | .normal, _, W' => KeptI n0 Pv W W' ∧ I s Pv W'
  | .ret, _, W' => KeptI n0 Pv W W' ∧ Ix .ret s Pv W'
  | .exit id, _, W' => KeptI n0 Pv W W' ∧ Ix (.exit id) s Pv W'
  | .goto t, _, W' => KeptI n0 Pv W W' ∧ Ix (.goto t) s Pv W'
  | .panic _, _, _ => False
  | .outgrown, _, _ => False

theorem room1 {n : Nat} : (Fence.wide.depth.isSome = true → 1 ≤ n) := fun h => by simp [Fence.wide] at h

/-- THE LAW. -/
theorem range {α : Type} {P : Program} {n : Nat} {g : Operand} {ps : Array Tmp} {assign body : Code} {Q : Exit → Act → World → Prop} {a : Act} {w : World}
    {gf : Nat} {lb : Array Value} (hg : a.eval g = .func (.func gf) #[] lb) (eg : ∀ args w, (callFunc gf args).run P w = .ok (.enter gf args) w)
    {encs : α → Array Value} (hps : ∀ x, (encs x).size = ps.size) {n0 : Nat} (hn0 : n0 ≤ w.heap.size) {xs : List α} (Pv0 : Nat → Prop) (hPv0 : ∀ k, Pv0 k → k < w.heap.size)
    (I : List α → (Nat → Prop) → World → Prop) (Ix : Code → List α → (Nat → Prop) → World → Prop) (hI : AbidesI I) (hIx : ∀ c, AbidesI (Ix c)) (h0 : I [] Pv0 w)
    (hseq : ∀ (m l : Nat) (J Jx : List α → (Nat → Prop) → World → Prop) (W : World), AbidesI J → AbidesI Jx → RoundI P l encs n0 (fun q => q <+: xs) J Jx → J [] Pv0 W → Below w.heap.size w W → w.heap.size ≤ W.heap.size →
      CallsIn Fence.wide m P gf (#[.func (.yield l) #[] #[]] ++ lb) W (EndsI n0 J Jx [] xs Pv0 W))
    (hround : ∀ (l D m : Nat) (pre : List α) (x : α) (Pv : Nat → Prop) (W : World), pre ++ [x] <+: xs → I pre Pv W → Pv l → Pv D → w.heap.size ≤ l → w.heap.size ≤ D → (∃ r, W.heap[l]? = some (.loop r)) →
      assign.wpIn (Fence.wide.inRound l) m P (Exit.then (fun a₁ W₁ => KeptI n0 Pv W W₁ ∧ ∀ W₂, Its Pv Pv W₁ W₂ → (∀ k, k ≠ l → W₂.heap[k]? = W₁.heap[k]?) → W₂.heap.size = W₁.heap.size → (∃ r, W₂.heap[l]? = some (.loop r)) → body.wpIn (Fence.wide.inRound l) m P (bodyP n0 Pv I Ix (pre ++ [x]) W₂) a₁ W₂) (fun _ _ _ => False))
        { tmps := (ps.zip (encs x)).foldl (fun t (p, v) => t.setIfInBounds p v) a.tmps, defers := [] } W)
    (hdone : ∀ (D : Nat) (Pv : Nat → Prop) (W : World), w.heap.size ≤ D → Pv D → I xs Pv W → Below n0 w W → W.heap[D]? = some (.deferred (some [])) → Q .normal { a with defers := { target := .collected D, args := #[] } :: a.defers } W)
    (hstop : ∀ (D : Nat) (c : Code) (q : List α) (Pv : Nat → Prop) (W : World), w.heap.size ≤ D → Pv D → q <+: xs → Ix c q Pv W → Below n0 w W → W.heap[D]? = some (.deferred (some [])) → c.wpIn Fence.wide n P Q { a with defers := { target := .collected D, args := #[] } :: a.defers } W) :
    (Code.rangeFunc g ps assign body).wpIn Fence.wide n P Q a w := by
  refine wpIn_rangeFunc ?_
  intro fn hfn
  obtain ⟨rec, hrec⟩ : ∃ rec : LoopState → Option Code → Loop, rec = fun st pe => { state := st, pending := pe, fn, tmps := a.tmps, params := ps, assign, body, defers := w.heap.size } := ⟨_, rfl⟩
  obtain ⟨W1, hW1⟩ : ∃ W1, (w.alloc (.deferred (some []))).alloc (.loop (rec .ready none)) = W1 := ⟨_, rfl⟩
  obtain ⟨l, hl⟩ : ∃ l, w.heap.size + 1 = l := ⟨_, rfl⟩
  obtain ⟨D, hD⟩ : ∃ D, w.heap.size = D := ⟨_, rfl⟩
  have hL1 : W1.heap[l]? = some (.loop (rec .ready none)) := by
    rw [← hW1, ← hl]; have := World.alloc_heap_new (w.alloc (.deferred (some []))) (.loop (rec .ready none)); rwa [World.size_alloc] at this
  have hK1 : W1.heap[D]? = some (.deferred (some [])) := by
    rw [← hW1, ← hD]; exact (Below.heap_alloc _ _ _ (by simp)).trans (World.alloc_heap_new w _)
  have hb1 : Below w.heap.size w W1 := by
    rw [← hW1]; exact ((Below.refl _ w).alloc (Nat.le_refl _) _).alloc (by simp) _
  have hs1 : W1.heap.size = w.heap.size + 2 := by rw [← hW1]; simp
  -- what the iterator's rounds keep going: the caller's word, the record ready
  let X : (Nat → Prop) → Nat → Prop := fun Pv k => Pv k ∨ (k = l ∨ k = D)
  let J : List α → (Nat → Prop) → World → Prop := fun pre Pv W => I pre (X Pv) W ∧ W.heap[l]? = some (.loop (rec .ready none)) ∧ W.heap[D]? = some (.deferred (some [])) ∧ ¬ Pv l ∧ ¬ Pv D
  let Jx : List α → (Nat → Prop) → World → Prop := fun pre Pv W => ∃ c, Ix c pre (X Pv) W ∧ W.heap[l]? = some (.loop (rec .done (some c))) ∧ W.heap[D]? = some (.deferred (some [])) ∧ ¬ Pv l ∧ ¬ Pv D
  have keep : ∀ {A B : World} {Pv Pv' : Nat → Prop} {k : Nat} {o : Obj}, Its Pv Pv' A B → A.heap[k]? = some o → ¬ Pv k → B.heap[k]? = some o ∧ ¬ Pv' k := fun {A B Pv Pv' k o} h ho hp => by
    have hk : k < A.heap.size := (Array.getElem?_eq_some_iff.1 ho).1
    exact ⟨(h.block k hk hp).trans ho, fun hp' => (h.own k hp').elim hp (fun e => by omega)⟩
  have aJ : AbidesI J := fun s Pv Pv' A B hs h => ⟨hI s _ _ A B hs.1 h.widen, (keep h hs.2.1 hs.2.2.2.1).1, (keep h hs.2.2.1 hs.2.2.2.2).1, (keep h hs.2.1 hs.2.2.2.1).2, (keep h hs.2.2.1 hs.2.2.2.2).2⟩
  have aJx : AbidesI Jx := fun s Pv Pv' A B hs h => by
    obtain ⟨c, h1, h2, h3, h4, h5⟩ := hs
    exact ⟨c, hIx c s _ _ A B h1 h.widen, (keep h h2 h4).1, (keep h h3 h5).1, (keep h h2 h4).2, (keep h h3 h5).2⟩
  have hJ1 : J [] Pv0 W1 := ⟨hI [] Pv0 _ w W1 h0 ⟨hb1.os, hb1.tape, hb1.output, hb1.size, fun k hk _ => hb1.block k hk, fun k hk => hk.elim .inl (fun e => by rcases e with rfl | rfl <;> exact .inr (by omega)), fun _ h => .inl h⟩,
    hL1, hK1, fun h => by have := hPv0 _ h; omega, fun h => by have := hPv0 _ h; omega⟩
  refine ⟨l, [{ target := .collected D, args := #[] }], W1, { target := .fn (.func gf) lb, args := #[.func (.yield l) #[] #[]] }, W1, gf,
    #[.func (.yield l) #[] #[]] ++ lb, W1, ?_, ?_, fun _ _ => trivial, ?_, room1, ?_⟩
  · rw [← hW1, hrec, ← hl, ← hD]; exact run_enterLoop_outer _ _ _ _ _
  · simp only [resolve, hg]
    simp [go_sem]
  · simp [invoke, go_sem, eg]
  · refine (hseq (n - 1) l J Jx W1 aJ aJx ?_ hJ1 hb1 (by omega)).mono ?_
    · -- one round
      rintro m pre x Pv W hpx ⟨hi, hl1, hk1, nl, nD⟩
      have hlt : l < W.heap.size := (Array.getElem?_eq_some_iff.1 hl1).1
      have hy := run_yield (P := P) (args := encs x) hl1 (by rw [hrec]; exact hps x)
      rw [hrec] at hy
      refine ⟨fn, _, assign, body, hy, roundIn_of_wpIn hfn ?_⟩
      refine wpIn_mono (hround l D m pre x (X Pv) W hpx hi (.inr (.inl rfl)) (.inr (.inr rfl)) (by omega) (by omega) ⟨_, hl1⟩) ?_
      rintro e a1 Wa hp
      cases e with
      | normal =>
        obtain ⟨hka, hbody⟩ := hp
        have hla : Wa.heap[l]? = some (.loop (rec .ready none)) := (hka.same l (.inr (.inl rfl)) hlt).trans hl1
        have hDa : Wa.heap[D]? = some (.deferred (some [])) := (hka.same D (.inr (.inr rfl)) (Array.getElem?_eq_some_iff.1 hk1).1).trans hk1
        refine ⟨_, run_beginRound hla (by rw [hrec]), ?_⟩
        obtain ⟨Wb, hWb⟩ : ∃ Wb, Wa.putObj l (.loop { rec .ready none with state := .busy }) = Wb := ⟨_, rfl⟩
        rw [hWb]
        have hlta : l < Wa.heap.size := (Array.getElem?_eq_some_iff.1 hla).1
        have hlb : Wb.heap[l]? = some (.loop { rec .ready none with state := .busy }) := by rw [← hWb]; exact World.putObj_heap_same hlta
        have hDb : Wb.heap[D]? = some (.deferred (some [])) := by rw [← hWb]; exact (World.putObj_heap_other (by omega)).trans hDa
        have hib : Its (X Pv) (X Pv) Wa Wb := by rw [← hWb]; exact Its.putObj _ (.inr (.inl rfl))
        have hkb : KeptI n0 Pv Wa Wb := by
          rw [← hWb]
          exact ⟨⟨rfl, rfl, rfl, by simp, fun k hk => World.putObj_heap_other (by omega)⟩, fun k hk _ => World.putObj_heap_other (fun e => nl (e ▸ hk))⟩
        refine wpIn_mono (hbody Wb hib (fun k hk => by rw [← hWb]; exact World.putObj_heap_other hk) (by rw [← hWb]; simp) ⟨_, hlb⟩) ?_
        have fin : ∀ (jump : Option Code) (W3 : World), KeptI n0 (X Pv) Wb W3 →
            (Instr.endRound l jump).run P W3 = .ok (.bool jump.isNone) (W3.putObj l (.loop (rec (if jump.isNone then .ready else .done) jump))) ∧
            Its (X Pv) (X Pv) W3 (W3.putObj l (.loop (rec (if jump.isNone then .ready else .done) jump))) ∧
            (W3.putObj l (.loop (rec (if jump.isNone then .ready else .done) jump))).heap[l]? = some (.loop (rec (if jump.isNone then .ready else .done) jump)) ∧
            (W3.putObj l (.loop (rec (if jump.isNone then .ready else .done) jump))).heap[D]? = some (.deferred (some [])) ∧
            KeptI n0 Pv W (W3.putObj l (.loop (rec (if jump.isNone then .ready else .done) jump))) := fun jump W3 hk3 => by
          have hl3 := (hk3.same l (.inr (.inl rfl)) (Array.getElem?_eq_some_iff.1 hlb).1).trans hlb
          have hD3 := (hk3.same D (.inr (.inr rfl)) (Array.getElem?_eq_some_iff.1 hDb).1).trans hDb
          have hlt3 : l < W3.heap.size := (Array.getElem?_eq_some_iff.1 hl3).1
          have := run_endRound (P := P) jump hl3
          rw [hrec] at this ⊢
          refine ⟨this, Its.putObj _ (.inr (.inl rfl)), World.putObj_heap_same hlt3, (World.putObj_heap_other (by omega)).trans hD3, ?_⟩
          have k4 : KeptI n0 Pv W3 (W3.putObj l (.loop ((fun st pe => ({ state := st, pending := pe, fn, tmps := a.tmps, params := ps, assign, body, defers := w.heap.size } : Loop)) (if jump.isNone then .ready else .done) jump))) :=
            ⟨⟨rfl, rfl, rfl, by simp, fun k hk => World.putObj_heap_other (by omega)⟩, fun k hk _ => World.putObj_heap_other (fun e => nl (e ▸ hk))⟩
          exact (((hka.mono (fun _ h => .inl h)).trans hkb).trans (hk3.mono (fun _ h => .inl h))).trans k4
        rintro e a3 W3 hp
        cases e with
        | normal =>
          obtain ⟨hk3, hi3⟩ := hp
          obtain ⟨hr, hi4, hl4, hk4, kk⟩ := fin none W3 hk3
          exact ⟨_, _, hr, kk, .inl ⟨rfl, hI _ _ _ _ _ hi3 hi4, hl4, hk4, nl, nD⟩⟩
        | ret =>
          obtain ⟨hk3, hi3⟩ := hp
          obtain ⟨hr, hi4, hl4, hk4, kk⟩ := fin (some .ret) W3 hk3
          exact ⟨_, _, hr, kk, .inr ⟨rfl, .ret, hIx _ _ _ _ _ _ hi3 hi4, hl4, hk4, nl, nD⟩⟩
        | exit id =>
          obtain ⟨hk3, hi3⟩ := hp
          obtain ⟨hr, hi4, hl4, hk4, kk⟩ := fin (some (.exit id)) W3 hk3
          exact ⟨_, _, hr, kk, .inr ⟨rfl, .exit id, hIx _ _ _ _ _ _ hi3 hi4, hl4, hk4, nl, nD⟩⟩
        | goto t =>
          obtain ⟨hk3, hi3⟩ := hp
          obtain ⟨hr, hi4, hl4, hk4, kk⟩ := fin (some (.goto t)) W3 hk3
          exact ⟨_, _, hr, kk, .inr ⟨rfl, .goto t, hIx _ _ _ _ _ _ hi3 hi4, hl4, hk4, nl, nD⟩⟩
        | panic ch => exact hp.elim
        | outgrown => exact hp.elim
      | exit id => exact hp.elim
      | goto t => exact hp.elim
      | ret => exact hp.elim
      | panic ch => exact hp.elim
      | outgrown => exact hp.elim
    · -- behind the iterator
      rintro e W2 ⟨⟨v, rfl⟩, Pv', hsub, hbel, (⟨hi, hl2, hk2, nl, nD⟩ | ⟨q, hq, c, hi, hl2, hk2, nl, nD⟩)⟩
      · have he := run_endLoop (P := P) hl2 (by rw [hrec]; simp)
        refine ⟨none, _, by rw [hrec] at he; exact he, hdone D (X Pv') _ (by omega) (.inr (.inr rfl)) (hI _ _ _ _ _ hi (Its.putObj _ (.inr (.inl rfl)))) ?_ ((World.putObj_heap_other (by omega)).trans hk2)⟩
        exact ((hb1.mono hn0).trans hbel).trans ⟨rfl, rfl, rfl, by simp, fun k hk => World.putObj_heap_other (by omega)⟩
      · have he := run_endLoop (P := P) hl2 (by rw [hrec]; simp)
        refine ⟨some c, _, by rw [hrec] at he; exact he, hstop D c q (X Pv') _ (by omega) (.inr (.inr rfl)) hq (hIx c _ _ _ _ _ hi (Its.putObj _ (.inr (.inl rfl)))) ?_ ((World.putObj_heap_other (by omega)).trans hk2)⟩
        exact ((hb1.mono hn0).trans hbel).trans ⟨rfl, rfl, rfl, by simp, fun k hk => World.putObj_heap_other (by omega)⟩
end Go.IterLaw

/- The contracts of sha.blocks and its iterator. -/
namespace Go.Proofs.YtfijhbfdkcajjaaGreatDoor.Sh
open Go.RowKit Go.Proofs.YtfijhbfdkcajjaaGreatDoorW.PrintWords Go.Proofs.YtfijhbfdkcajjaaGreatDoorW.PrintLast Go.Proofs.YtfijhbfdkcajjaaGreatDoorW.PrintMore Go.IterLaw
set_option linter.unusedVariables false
set_option linter.unusedSimpArgs false
attribute [local go_sem] Oper.semAt_some
abbrev Part := ByteArray × Bool
def encP (x : Part) : Array Value := #[.string x.1, .bool x.2]
/-- A text's whole blocks, then what is left. -/
def itemsN : Nat → ByteArray → List Part
  | 0, s => [(s, false)]
  | n + 1, s => (s.extract 0 64, true) :: itemsN n (s.extract 64 s.size)
def items (s : ByteArray) : List Part := itemsN (s.size / 64) s
theorem size_rest (s : ByteArray) : (s.extract 64 s.size).size = s.size - 64 := by simp
theorem items_more (s : ByteArray) (h : 64 ≤ s.size) : items s = (s.extract 0 64, true) :: items (s.extract 64 s.size) := by
  obtain ⟨n, hn⟩ : ∃ n, s.size / 64 = n + 1 := ⟨s.size / 64 - 1, by omega⟩
  have h2 : (s.extract 64 s.size).size / 64 = n := by rw [size_rest]; omega
  unfold items
  rw [hn, h2]
  rfl
theorem items_last (s : ByteArray) (h : s.size < 64) : items s = [(s, false)] := by
  unfold items
  rw [show s.size / 64 = 0 by omega]
  rfl
theorem its_setCell {Pv : Nat → Prop} {W : World} {l : Nat} (h : Pv l) (j : Nat) (v : Value) : Its Pv Pv W (W.setCell ⟨l, j, none⟩ v) :=
  have hb : Below 0 W (W.setCell ⟨l, j, none⟩ v) := (Below.refl 0 W).setCell (Nat.zero_le _) v
  ⟨hb.os, hb.tape, hb.output, hb.size, fun k _ hn => Below.heap_setCell W _ _ k (fun e => hn (e ▸ h)), fun _ h => .inl h, fun _ h => h⟩
set_option maxRecDepth 100000 in
theorem blocks_calls (s : ByteArray) (w : World) : Calls Tryz.prog 138 #[.string s] w fun e w' =>
    e = .returned (.func (.func 149) #[] #[.pointer (some ⟨w.heap.size, 0, none⟩)]) ∧ w' = w.alloc (.cells #[.string s] 9) := by
  go_enter Tryz.func138, Tryz.ntmps138
  go_wp2
  go_ret
  exact ⟨rfl, rfl⟩
set_option maxRecDepth 100000 in
set_option maxHeartbeats 4000000 in
theorem blocks1_calls (s : ByteArray) (hs : s.size < 281474976710656) (l n0 m : Nat) (J Jx : List Part → (Nat → Prop) → World → Prop) (aJ : AbidesI J) (hY : RoundI Tryz.prog l encP n0 (fun q => q <+: items s) J Jx) (Pv : Nat → Prop) (W : World) (B : Nat) (hJ : J [] Pv W) (hn0 : n0 ≤ B) (hB : Pv B)
    (h1 : W.heap[B]? = some (.cells #[.string s] 9 (0, 0))) :
    CallsIn Fence.wide m Tryz.prog 149 #[.func (.yield l) #[] #[], .pointer (some ⟨B, 0, none⟩)] W (EndsI n0 J Jx [] (items s) Pv W) := by
  refine callsIn_of_wp Tryz.func149 rfl trivial ?_
  simp only [Tryz.ntmps149, List.size_toArray, List.length_cons, List.length_nil, Nat.reduceAdd, Nat.reduceSub, Array.replicate_succ, Array.replicate_zero, List.push_toArray, List.append_toArray, List.nil_append, List.cons_append]
  gi_wp2_with fail
  gi_loopg [] (s.size / 64) (fun k wr => ∃ (q : List Part) (r : ByteArray) (Pv' : Nat → Prop), Aside0 (r.size / 64 = k ∧ items s = q ++ items r ∧ r.size ≤ s.size) ∧ Aside0 (J q Pv' wr ∧ (∀ k, Pv k → Pv' k) ∧ Below n0 W wr) ∧ wr.heap[B]? = some (.cells #[.string r] 9 (0, 0)))
  case atStart => exact ⟨[], s, Pv, ⟨rfl, rfl, Nat.le_refl _⟩, ⟨hJ, fun _ h => h, Below.refl _ _⟩, h1⟩
  case round =>
    obtain ⟨q, r, Pv', HK, HJ, h2⟩ := hrel
    have c1 : wr.cell? ⟨B, 0, none⟩ = some (.string r) := (blk_cell h2 0).trans rfl
    have hlt : r.size < 281474976710656 := Nat.lt_of_le_of_lt HK.out.2.2 hs
    by_cases h64 : 64 ≤ r.size
    · have d0 : decide ((64 : Int) ≤ (r.size : Int)) = true := decide_eq_true (by omega)
      have hit : Aside0 (items r = (r.extract 0 64, true) :: items (r.extract 64 r.size)) := ⟨items_more r h64⟩
      obtain ⟨fn, tmps, assign, body, hy, hR⟩ := hY (m - 1) q (r.extract 0 64, true) Pv' wr (by show _ <+: items s; rw [HK.out.2.1, hit.out]; exact ⟨items (r.extract 64 r.size), by simp⟩) HJ.out.1
      dsimp only [encP] at hy
      gi_wp2_with fail
      refine ⟨room1, hR.mono ?_⟩
      rintro e W' ⟨hk2, ⟨rfl, hh⟩ | ⟨rfl, hh⟩⟩
      · have h3 : W'.heap[B]? = some (.cells #[.string r] 9 (0, 0)) := (hk2.same B (HJ.out.2.1 B hB) (blk_lt h2)).trans h2
        have c3 : W'.cell? ⟨B, 0, none⟩ = some (.string r) := (blk_cell h3 0).trans rfl
        have f3 := blk_frozen h3 0
        have b3 : Aside0 (Below n0 W W') := ⟨HJ.out.2.2.trans hk2.below⟩
        have hh3 := Aside0.mk hh
        clear hh hR
        gi_wp2_with fail
        gi_roundg (gk - 1)
        case measure => have := HK.out.1; omega
        case rel =>
          refine ⟨q ++ [(r.extract 0 64, true)], r.extract 64 r.size, Pv', ⟨?_, ?_, ?_⟩, ⟨?_, HJ.out.2.1, ?_⟩, ?_⟩
          · have := HK.out.1; rw [size_rest]; omega
          · rw [HK.out.2.1, hit.out]; simp
          · have := HK.out.2.2; rw [size_rest]; omega
          · exact aJ _ _ _ _ _ hh3.out (its_setCell (HJ.out.2.1 B hB) _ _)
          · exact b3.out.setCell hn0 _
          · exact blk_set h3 0 _
      · have b3 : Aside0 (Below n0 W W') := ⟨HJ.out.2.2.trans hk2.below⟩
        have hh3 := Aside0.mk hh
        clear hh hR
        gi_wp2_with fail
        refine bodyPost_ret (results_none rfl _ _ _) rfl ?_
        refine ⟨⟨_, rfl⟩, Pv', HJ.out.2.1, b3.out, .inr ⟨q ++ [(r.extract 0 64, true)], ?_, hh3.out⟩⟩
        rw [HK.out.2.1, hit.out]; exact ⟨items (r.extract 64 r.size), by simp⟩
    · have d0 : decide ((64 : Int) ≤ (r.size : Int)) = false := decide_eq_false (by omega)
      have hit : Aside0 (items r = [(r, false)]) := ⟨items_last r (by omega)⟩
      obtain ⟨fn, tmps, assign, body, hy, hR⟩ := hY (m - 1) q (r, false) Pv' wr (by show _ <+: items s; rw [HK.out.2.1, hit.out]; exact List.prefix_refl _) HJ.out.1
      dsimp only [encP] at hy
      gi_wp2_with fail
      refine ⟨room1, hR.mono ?_⟩
      rintro e W' ⟨hk2, hh⟩
      have b3 : Aside0 (Below n0 W W') := ⟨HJ.out.2.2.trans hk2.below⟩
      obtain ⟨v, rfl⟩ : ∃ v, e = .returned v := by rcases hh with ⟨rfl, _⟩ | ⟨rfl, _⟩ <;> exact ⟨_, rfl⟩
      have hh3 : Aside0 (J (q ++ [(r, false)]) Pv' W' ∨ ∃ q', q' <+: items s ∧ Jx q' Pv' W') := ⟨by
        rcases hh with ⟨_, h⟩ | ⟨_, h⟩
        · exact .inl h
        · exact .inr ⟨_, by rw [HK.out.2.1, hit.out]; exact List.prefix_refl _, h⟩⟩
      have hfin : Aside0 (items s = q ++ [(r, false)]) := ⟨by rw [HK.out.2.1, hit.out]⟩
      clear hh hR
      gi_wp2_with fail
      refine bodyPost_ret (results_none rfl _ _ _) rfl ?_
      refine ⟨⟨_, rfl⟩, Pv', HJ.out.2.1, b3.out, ?_⟩
      rw [List.nil_append, hfin.out]
      rcases hh3.out with h | ⟨q', h, h'⟩
      · exact .inl h
      · exact .inr ⟨q', by rwa [hfin.out] at h, h'⟩
end Go.Proofs.YtfijhbfdkcajjaaGreatDoor.Sh

/-
  DERIVED: THE SHELF's CONTRACTS AT THIS DUMP, IN PLAIN WORDS (tools/lay-plain.mjs out of 'YtfijhbfdkcajjaaGreatDoorShDTry.lean', which tools/lay-shelf.mjs wrote): THE SAME DECLARATIONS UNDER THE SAME NAMES: 'import', 'namespace', 'open', 'def', 'theorem' AND NOTHING ELSE: no command of the shelf's: FOR A HAND-IN. Each laying: the table of numbers ('.._ren') and one theorem, a field a fact of the dump's own or the kernel's comparison; each contract: ONE APPLICATION.
-/
namespace Go.Proofs
open Go.Shelf
def Tryz.laysM316_ren : Go.Shelf.Ren := ⟨fun | 316 => 152 | n => n, fun | 9 => 9 | 3 => 3 | 4 => 4 | 37 => 82 | 0 => 0 | 127 => 185 | 5 => 5 | n => n, fun | n => n⟩
theorem Tryz.laysM316 : Go.Proofs.LaysM.n316 Tryz.prog Tryz.laysM316_ren := {
  mixed := by kernel_rfl
  f316 := Tryz.func152.trans (congrArg some (by kernel_rfl))
  t0 := Tryz.underlying0
  a0 := Tryz.isAgg0
  z0 := Tryz.sizeOf0
  v0 := Tryz.zeroValue0
  t3 := Tryz.underlying3
  a3 := Tryz.isAgg3
  z3 := Tryz.sizeOf3
  v3 := Tryz.zeroValue3
  t4 := Tryz.underlying4
  a4 := Tryz.isAgg4
  z4 := Tryz.sizeOf4
  v4 := Tryz.zeroValue4
  t9 := Tryz.underlying9
  a9 := Tryz.isAgg9
  z9 := Tryz.sizeOf9
  v9 := Tryz.zeroValue9
  t37 := Tryz.underlying82
  a37 := Tryz.isAgg82
  z37 := Tryz.sizeOf82
  v37 := Tryz.zeroValue82
  t127 := Tryz.underlying185
  a127 := Tryz.isAgg185
  z127 := Tryz.sizeOf185
  v127 := Tryz.zeroValue185
  t5 := Tryz.underlying5
  a5 := Tryz.isAgg5
  z5 := Tryz.sizeOf5
  v5 := Tryz.zeroValue5
  i0 := by kernel_rfl
  i3 := by kernel_rfl
  i4 := by kernel_rfl
  i5 := by kernel_rfl
  i9 := by kernel_rfl
  i37 := by kernel_rfl
  i127 := by kernel_rfl }
open Go.RowKit in
/-- internal/stringslite.Clone (what strings.Clone calls): "Clone returns a fresh copy of s.": THE SAME BYTES. Of what was there nothing has turned (a new row is laid, and frozen, where s is not empty). (LAID: no walk: one application.) -/
theorem Tryz.stringslite_Clone (s : ByteArray) (w : World) (hlim : s.size ≤ 281474976710656) :
    Calls Tryz.prog 152 #[.string s] w fun e w' => e = .returned (.string s) ∧ Below w.heap.size w w' := Any.stringslite_Clone Tryz.laysM316 s w hlim
end Go.Proofs

/- A region that draws its order, in a round of a range over a function: out of the plain walk of it. -/
namespace Go.RoundReg
open Go Go.Proofs.YtfijhbfdkcajjaaGreatDoorW.PrintLast
section
variable {P : Program} {ops : Array Oper} {Q : Exit → Act → World → Prop} {md : Region.Mode} {S : World → Prop} {ds : List Nat}
theorem room_wide {n : Nat} : (Fence.wide.depth.isSome = true → 1 ≤ n) := fun h => by simp [Fence.wide] at h
theorem Oper.wpIn_round {lp m : Nat} {o : Oper} {a : Act} {w : World} {K : Act → World → Prop} (ho : ∀ c, o.op ≠ .defer c) (h : o.wp P a w K Q) : o.wpIn (Fence.wide.inRound lp) m P a w K Q := by
  unfold Oper.wp at h
  unfold Oper.wpIn
  refine ⟨fun _ _ => trivial, ?_⟩
  rw [Oper.semAt_plain _ _ _ ho]
  generalize (execOp a.eval o).run P w = r at h ⊢
  cases r with
  | ok x w' =>
    cases x with
    | value v => exact h
    | skip => exact h
    | defer d => exact h
    | enter f args => exact ⟨room_wide, callsIn_wide.2 h⟩
    | row row args => exact ⟨room_wide, fun c cs _ => let ⟨v, w'', r, s⟩ := h c cs; ⟨v, w'', r, stepsIn_wide.2 s⟩⟩
    | _ => exact absurd h (by simp [Oper.upon])
  | halt x w' => cases x <;> first | exact h | exact absurd h (by simp [Oper.upon])
theorem wpOpIn_round {lp m i : Nat} {a : Act} {w : World} {K : Act → World → Prop} (ho : ∀ o : Oper, ops[i]? = some o → ∀ c, o.op ≠ .defer c) (hQ : ¬ LetsOut Q) (h : wpOp P ops Q i K a w) : wpOpIn (Fence.wide.inRound lp) m P ops Q i K a w := by
  unfold wpOp at h
  unfold wpOpIn
  cases hi : ops[i]? with
  | none => simpa [hi] using h
  | some o =>
    simp only [hi] at h ⊢
    split
    · rename_i hw
      simp only [hw, if_true] at h
      rcases h with h | h
      · exact Oper.wpIn_round (ho o hi) h
      · exact absurd h.2 hQ
    · rename_i hw
      simp only [hw] at h
      exact ⟨fun _ _ => trivial, h⟩
theorem wpAnyIn_round {lp m : Nat} (ho : ∀ (i : Nat) (o : Oper), ops[i]? = some o → ∀ c, o.op ≠ .defer c) (hQ : ¬ LetsOut Q) : ∀ (fuel : Nat) (listed : Array Bool) (a : Act) (w : World), wpAny P md ops Q fuel listed a w → wpAnyIn (Fence.wide.inRound lp) m P md ops Q fuel listed a w
  | 0, _, _, _, h => h
  | fuel + 1, _, _, _, h => ⟨h.1, fun i hi => wpOpIn_round (ho i) hQ (wpOp_mono (fun a' w' h' => wpAnyIn_round ho hQ fuel _ a' w' h') (h.2 i hi))⟩
def noDefer (ops : Array Oper) : Bool := ops.toList.all fun o => match o.op with | .defer _ => false | _ => true
theorem noDefer_spec (h : noDefer ops = true) (i : Nat) (o : Oper) (hi : ops[i]? = some o) (c : Call) : o.op ≠ .defer c := by
  intro e
  have := List.all_eq_true.1 h o (by have := Array.mem_of_getElem? hi; simpa using this)
  rw [e] at this
  cases this
/-- The beginning of a region's walk, in a round ('start_' of the plain walk). -/
theorem startR {lp m : Nat} {id n : Nat} {a : Act} {w : World} (l : Array Bool) (hm : P.follows .mixedOrders = true) (hd : noDefer ops = true) (hQ : ¬ LetsOut Q) (hn : ops.size = n) (hl : Array.replicate n false = l) (hS : S w.drew)
    (h : S w.drew → wpAnyLast P .any ops Q S ds n l a w.drew) : (Code.region id ops true).wpIn (Fence.wide.inRound lp) m P Q a w := by
  subst hn
  subst hl
  exact wpIn_region_any hm (wpAnyIn_round (noDefer_spec hd) hQ _ _ _ _ (wpAny_of_last _ _ _ _ (h hS)))
end
end Go.RoundReg

/- The contract of sha.takes. -/
namespace Go.Proofs.YtfijhbfdkcajjaaGreatDoor.Sh
open Go.RowKit Go.Proofs.YtfijhbfdkcajjaaGreatDoorW.PrintWords Go.Proofs.YtfijhbfdkcajjaaGreatDoorW.PrintLast Go.Proofs.YtfijhbfdkcajjaaGreatDoorW.PrintMore Go.IterLaw Go.RoundReg
set_option linter.unusedVariables false
set_option linter.unusedSimpArgs false
attribute [local go_sem] Oper.semAt_some
theorem calls_marks {P : Program} {f : FuncId} {fn : Func} {c : Code} {args : Array Value} {w : World} {R : Ending → World → Prop}
    (hf : P.funcs[f]? = some fn) (hb : fn.body = some c) (h : c.wp P (bodyPostM Fence.wide 0 P fn R) { tmps := args ++ Array.replicate (fn.ntmps - args.size) undef, defers := [] } w) : Calls P f args w R :=
  callsIn_wide.1 (callsIn_of_wp_marks (n := 0) hf hb trivial (wpIn_wide.2 h))
theorem zip2 (t : Array Value) (p q : Tmp) (v u : Value) : (#[p, q].zip #[v, u]).foldl (fun t (p, v) => t.setIfInBounds p v) t = (t.setIfInBounds p v).setIfInBounds q u := by simp
theorem stringsClone_calls (s : ByteArray) (w : World) (hs : s.size ≤ 281474976710656) : Calls Tryz.prog 140 #[.string s] w fun e w' => e = .returned (.string s) ∧ Below w.heap.size w w' := by
  go_enter Tryz.func140, Tryz.ntmps140
  go_wp2_with fail
  refine (Tryz.stringslite_Clone s w hs).mono ?_
  rintro e w' ⟨rfl, hb⟩
  go_wp2
  go_ret
  exact ⟨rfl, hb⟩
/-- What a digest takes in. -/
def absorb1 (p : St8 × ByteArray) (x : Part) : St8 × ByteArray := if x.2 then (nextX p.1 x.1, ⟨#[]⟩) else (p.1, x.1)
def absorb (p : St8 × ByteArray) (l : List Part) : St8 × ByteArray := l.foldl absorb1 p
theorem absorb_snoc (p : St8 × ByteArray) (l : List Part) (x : Part) : absorb p (l ++ [x]) = absorb1 (absorb p l) x := by simp [absorb]
/-- A digest behind a text. -/
def taken (s : St8) (rest t : ByteArray) : St8 × ByteArray := absorb (s, rest) (items (rest ++ t))
theorem items_long : ∀ (n : Nat) (s : ByteArray), s.size / 64 = n → ∀ x, x ∈ items s → x.1.size ≤ s.size ∧ (x.2 = true → x.1.size = 64) ∧ (x.2 = false → x.1.size < 64)
  | 0, s, hn, x, hx => by
    rw [items_last s (by omega), List.mem_singleton] at hx
    subst hx
    exact ⟨Nat.le_refl _, fun h => (by cases h), fun _ => (by show s.size < 64; omega)⟩
  | n + 1, s, hn, x, hx => by
    have h : 64 ≤ s.size := by omega
    rw [items_more s h, List.mem_cons] at hx
    rcases hx with rfl | hx
    · have : (s.extract 0 64).size = 64 := by simp; omega
      exact ⟨by show (s.extract 0 64).size ≤ s.size; omega, fun _ => this, fun h => (by cases h)⟩
    · have := items_long n (s.extract 64 s.size) (by rw [size_rest]; omega) x hx
      rw [size_rest] at this
      exact ⟨by omega, this.2⟩
/-- Only block B (and what is new) has turned. -/
structure But (B n : Nat) (w w' : World) : Prop where
  os : w'.os = w.os
  tape : w'.tape = w.tape
  output : w'.output = w.output
  size : w.heap.size ≤ w'.heap.size
  block : ∀ k, k < n → k ≠ B → w'.heap[k]? = w.heap[k]?
theorem CTab.but {w w' : World} {B : Nat} (h : CTab w) (hb : But B w.heap.size w w') (hB : B ≠ 3) : CTab w' := fun j hj => by
  have := hb.block _ h.lt (Ne.symm hB)
  exact (show w'.cell? _ = w.cell? _ by simp only [World.cell?, this]).trans (h j hj)
theorem IsSha.ne {w : World} {B : Nat} {s : St8} {rest : ByteArray} {n : Int} (h : IsSha w B s rest n) (hT : CTab w) : B ≠ 3 := fun e => by
  have h0 : w.cell? ⟨B, 0, none⟩ = some (.bool true) := (blk_cell h 0).trans rfl
  have h1 := hT 0 (by decide)
  rw [← e, h0] at h1
  cases h1
theorem kept_row {B : Nat} {Pv : Nat → Prop} {wd w' : World} (hb : Below wd.heap.size wd w') (hB : B ≤ wd.heap.size) (cs : Array Value) (hP : ∀ k, Pv k → k ≠ B) : KeptI B Pv wd (w'.setRow B cs) :=
  ⟨RowStore.below_setRow (hb.mono hB) (Nat.le_refl _) cs, fun k hk hlt => (setRow_other w' B k cs (hP k hk)).trans (hb.block k hlt)⟩
theorem but_row {B E : Nat} {w wd w' : World} (h : But B E w wd) (hb : Below wd.heap.size wd w') (hE : E ≤ wd.heap.size) (cs : Array Value) : But B E w (w'.setRow B cs) :=
  ⟨hb.os.trans h.os, hb.tape.trans h.tape, hb.output.trans h.output, by have := h.size; have := hb.size; simp [World.setRow]; omega, fun k hk hne => (setRow_other w' B k cs hne).trans ((hb.block k (by omega)).trans (h.block k hk hne))⟩
theorem kept_cell {B : Nat} {Pv : Nat → Prop} {wd w' : World} (hb : Below wd.heap.size wd w') (hB : B ≤ wd.heap.size) (j : Nat) (v : Value) (hP : ∀ k, Pv k → k ≠ B) : KeptI B Pv wd (w'.setCell ⟨B, j, none⟩ v) :=
  ⟨(hb.mono hB).setCell (p := ⟨B, j, none⟩) (Nat.le_refl _) v, fun k hk hlt => (Below.heap_setCell w' _ v k (hP k hk)).trans (hb.block k hlt)⟩
theorem but_cell {B E : Nat} {w wd w' : World} (h : But B E w wd) (hb : Below wd.heap.size wd w') (hE : E ≤ wd.heap.size) (j : Nat) (v : Value) : But B E w (w'.setCell ⟨B, j, none⟩ v) :=
  ⟨hb.os.trans h.os, hb.tape.trans h.tape, hb.output.trans h.output, by have := h.size; have := hb.size; simp; omega, fun k hk hne => (Below.heap_setCell w' _ v k hne).trans ((hb.block k (by omega)).trans (h.block k hk hne))⟩
set_option maxRecDepth 100000 in
set_option maxHeartbeats 4000000 in
theorem takes_calls (B : Nat) (s : St8) (rest t : ByteArray) (n : Nat) (w : World) (h : IsSha w B s rest n) (hT : CTab w) (hn : n + t.size < 18446744073709551616) (ht : t.size < 140737488355328) (hr : rest.size < 64) :
    Calls Tryz.prog 125 #[.pointer (some ⟨B, 0, none⟩), .string t] w fun e w' =>
      e = .returned (.tuple #[]) ∧ IsSha w' B (taken s rest t).1 (taken s rest t).2 ((n + t.size : Nat) : Int) ∧ But B w.heap.size w w' := by
  have hlt : B < w.heap.size := h.lt
  refine calls_marks Tryz.func125 rfl ?_
  simp only [Tryz.ntmps125, List.size_toArray, List.length_cons, List.length_nil, Nat.reduceAdd, Nat.reduceSub, Array.replicate_succ, Array.replicate_zero, List.push_toArray, List.append_toArray, List.nil_append, List.cons_append]
  obtain ⟨E, hE⟩ : ∃ E, w.heap.size = E := ⟨_, rfl⟩
  have hA : Aside0 (IsSha (w.alloc (.cells #[.pointer (some ⟨B, 0, none⟩)] 134)) B s rest n) := ⟨h.below ((Below.refl _ _).alloc (Nat.le_refl _) _)⟩
  have cn : (w.alloc (.cells #[.pointer (some ⟨B, 0, none⟩)] 134)).cell? ⟨B, 10, none⟩ = some (.int .u64 (n : Int)) := (blk_cell hA.out 10).trans rfl
  have cr : (w.alloc (.cells #[.pointer (some ⟨B, 0, none⟩)] 134)).cell? ⟨B, 9, none⟩ = some (.string rest) := (blk_cell hA.out 9).trans rfl
  have fz := blk_frozen hA.out 10
  have HH := Aside0.mk h
  clear h
  go_wp2_with fail
  refine (blocks_calls (rest ++ t) _).mono ?_
  rintro e W1 ⟨rfl, hW1⟩
  have hs0 : (rest ++ t).size = rest.size + t.size := by simp
  have hsB : Aside0 (IsSha W1 B s rest ((n + t.size : Nat) : Int) ∧ W1.heap[E]? = some (.cells #[.pointer (some ⟨B, 0, none⟩)] 134 (0, 0)) ∧ W1.heap[E + 1]? = some (.cells #[.string (rest ++ t)] 9 (0, 0)) ∧ W1.heap.size = E + 2 ∧ But B E w W1) := ⟨by
    obtain ⟨A0, hA0⟩ : ∃ A0, w.alloc (.cells #[.pointer (some ⟨B, 0, none⟩)] 134) = A0 := ⟨_, rfl⟩
    have hb0 : Below E w A0 := by rw [← hA0, ← hE]; exact (Below.refl _ w).alloc (Nat.le_refl _) _
    have hsz : A0.heap.size = E + 1 := by rw [← hA0, ← hE]; simp
    have hbox : A0.heap[E]? = some (.cells #[.pointer (some ⟨B, 0, none⟩)] 134 (0, 0)) := by rw [← hA0, ← hE]; exact World.alloc_heap_new w _
    rw [hA0] at hW1
    have hA1 : IsSha A0 B s rest n := by rw [← hA0]; exact hA.out
    obtain ⟨A1, hA1e⟩ : ∃ A1, A0.setCell ⟨B, 10, none⟩ (.int .u64 ((n : Int) + (t.size : Int))) = A1 := ⟨_, rfl⟩
    rw [hA1e] at hW1
    have k1 : IsSha A1 B s rest ((n + t.size : Nat) : Int) := by rw [← hA1e]; push_cast; exact blk_set hA1 10 _
    have k2 : ∀ k, k ≠ B → A1.heap[k]? = A0.heap[k]? := fun k hk => by rw [← hA1e]; exact Below.heap_setCell _ _ _ k hk
    have k3 : Below 0 A0 A1 := by rw [← hA1e]; exact (Below.refl 0 A0).setCell (Nat.zero_le _) _
    have k4 : A1.heap.size = E + 1 := by rw [← hA1e]; simpa using hsz
    have k5 : Below A1.heap.size A1 W1 := by rw [hW1]; exact (Below.refl _ A1).alloc (Nat.le_refl _) _
    have k6 : W1.heap.size = E + 2 := by rw [hW1]; simp [k4]
    refine ⟨k1.below k5, ?_, ?_, k6, ⟨k5.os.trans (k3.os.trans hb0.os), k5.tape.trans (k3.tape.trans hb0.tape), k5.output.trans (k3.output.trans hb0.output), by omega, fun k hk hne => ?_⟩⟩
    · exact (k5.block E (by omega)).trans ((k2 E (by omega)).trans hbox)
    · have := World.alloc_heap_new A1 (.cells #[.string (rest ++ t)] 9); rw [← hW1, k4] at this; exact this
    · exact (k5.block k (by omega)).trans ((k2 k hne).trans (hb0.block k hk))⟩
  have eW : ∀ X : World, X.heap.size = E + 1 → Value.pointer (some ⟨X.heap.size, 0, none⟩) = .pointer (some ⟨E + 1, 0, none⟩) := fun X h => by rw [h]
  have eS : ((w.alloc (.cells #[.pointer (some ⟨B, 0, none⟩)] 134)).setCell ⟨B, 10, none⟩ (.int .u64 ((n : Int) + (t.size : Int)))).heap.size = E + 1 := by simp [hE]
  rw [eS]
  clear eS eW hW1 cn cr fz hA
  obtain ⟨hs1, hbox, hstr, hsz, hbut⟩ := hsB.out
  have hHS := hsB
  clear hsB
  go_wp2_with fail
  let N : Int := ((n + t.size : Nat) : Int)
  let I : List Part → (Nat → Prop) → World → Prop := fun q Pv V => IsSha V B (absorb (s, rest) q).1 (absorb (s, rest) q).2 N ∧ V.heap[E]? = some (.cells #[.pointer (some ⟨B, 0, none⟩)] 134 (0, 0)) ∧ But B E w V ∧ (∀ k, Pv k → E + 1 ≤ k) ∧ E + 1 ≤ V.heap.size
  have aI : AbidesI I := fun q Pv Pv' V V' h i => by
    obtain ⟨i1, i2, i3, i4, i5⟩ := h
    refine ⟨(i.block B (by omega) (fun h => by have := i4 _ h; omega)).trans i1, (i.block E (by omega) (fun h => by have := i4 _ h; omega)).trans i2, ⟨i.os.trans i3.os, i.tape.trans i3.tape, i.output.trans i3.output, by have := i.size; have := i3.size; omega, fun k hk hne => (i.block k (by omega) (fun h => by have := i4 _ h; omega)).trans (i3.block k hk hne)⟩, fun k hk => (i.own k hk).elim (i4 k) (fun e => by omega), by have := i.size; omega⟩
  refine wpIn_wide.1 (range (n := 0) (gf := 149) (lb := #[.pointer (some ⟨E + 1, 0, none⟩)]) ?hg (enters_of Tryz.func149 (by kernel_rfl) rfl) (encs := encP) (fun _ => rfl) (n0 := B) (by omega) (xs := items (rest ++ t)) (fun k => k = E + 1) (fun _ h => by omega) I (fun _ _ _ _ => False) aI (fun _ _ _ _ _ _ h _ => h) ?h0 ?hseq ?hround ?hdone ?hstop)
  case hg => simp [Act.eval]
  case h0 => exact ⟨hs1, hbox, hbut, fun k h => by omega, by omega⟩
  case hstop => intro D c q Pv V _ _ _ h; exact h.elim
  case hseq =>
    intro m l J Jx V aJ aJx hY hJ hb hsz2
    exact blocks1_calls (rest ++ t) (by omega) l B m J Jx aJ hY _ V (E + 1) hJ (by omega) rfl ((hb.block _ (by omega)).trans hstr)
  case hdone =>
    intro D Pv V hD hPD hI hb hd
    obtain ⟨i1, i2, i3, i4, i5⟩ := hI
    go_wp2_with fail
    refine ⟨by simp, .inl ⟨_, _, rfl, run_takeDeferred hd, ?_⟩⟩
    refine ⟨_, results_none rfl _ _ _, ?_⟩
    refine ⟨rfl, (World.putObj_heap_other (by omega)).trans i1, ⟨i3.os, i3.tape, i3.output, by have := i3.size; simpa using this, fun k hk hne => (World.putObj_heap_other (by omega)).trans (i3.block k (by omega) hne)⟩⟩
  case hround =>
    intro l D m q x Pv V hpx hI hl hD hll hDD hloop
    obtain ⟨b, wh⟩ := x
    rw [show encP (b, wh) = #[.string b, .bool wh] from rfl, zip2]
    dsimp only
    gi_wp2_with (rw [Oper.semAt_eq _ _ _ (fun c h => by cases h)]; go_simp; try go_bits)
    refine ⟨KeptI.refl _ _ _, fun V2 hi hsame hsz2 hl2 => ?_⟩
    have hI2 : I q Pv V2 := aI _ _ _ _ _ hI hi
    clear hI hi hsame hloop hl2
    obtain ⟨i1, i2, i3, i4, i5⟩ := hI2
    obtain ⟨z, hz⟩ : ∃ z, (absorb (s, rest) q).1 = z := ⟨_, rfl⟩
    obtain ⟨r, hr'⟩ : ∃ r, (absorb (s, rest) q).2 = r := ⟨_, rfl⟩
    rw [hz, hr'] at i1
    have kE : V2.cell? ⟨E, 0, none⟩ = some (.pointer (some ⟨B, 0, none⟩)) := (blk_cell i2 0).trans rfl
    have k9 : V2.cell? ⟨B, 9, none⟩ = some (.string r) := (blk_cell i1 9).trans rfl
    have f9 := blk_frozen i1 9
    have hx : Aside0 ((b, wh) ∈ items (rest ++ t)) := ⟨hpx.subset (by simp)⟩
    have hI3 : Aside0 (IsSha (V2.setCell ⟨B, 9, none⟩ (.string ⟨#[]⟩)) B z ⟨#[]⟩ N) := ⟨blk_set i1 9 _⟩
    have hI4 : Aside0 ((V2.setCell ⟨B, 9, none⟩ (.string ⟨#[]⟩)).heap[E]? = some (.cells #[.pointer (some ⟨B, 0, none⟩)] 134 (0, 0))) := ⟨(Below.heap_setCell _ _ _ E (by dsimp only; omega)).trans i2⟩
    cases wh with
    | true =>
      gi_wp2_with (rw [Oper.semAt_eq _ _ _ (fun c h => by cases h)]; go_simp; try go_bits)
      have hx64 : Aside0 (b.size = 64) := ⟨(items_long _ _ rfl _ hx.out).2.1 rfl⟩
      have HT3 : Aside0 (CTab (V2.setCell ⟨B, 9, none⟩ (.string ⟨#[]⟩))) := ⟨hT.but (B := B) ⟨i3.os, i3.tape, i3.output, by have := i3.size; simpa using this, fun k hk hne => (Below.heap_setCell _ _ _ k hne).trans (i3.block k (by omega) hne)⟩ (HH.out.ne hT)⟩
      have HK3 : Aside0 (KeptI B Pv V2 (V2.setCell ⟨B, 9, none⟩ (.string ⟨#[]⟩))) := ⟨(Below.refl B V2).setCell (p := ⟨B, 9, none⟩) (Nat.le_refl _) _, fun k hk hlt => Below.heap_setCell _ _ _ k (fun e => by have := i4 _ hk; dsimp only at e; omega)⟩
      have HBut3 : Aside0 (But B E w (V2.setCell ⟨B, 9, none⟩ (.string ⟨#[]⟩))) := ⟨⟨i3.os, i3.tape, i3.output, by have := i3.size; simpa using this, fun k hk hne => (Below.heap_setCell _ _ _ k hne).trans (i3.block k hk hne)⟩⟩
      have HZ3 : Aside0 (E + 1 ≤ (V2.setCell ⟨B, 9, none⟩ (.string ⟨#[]⟩)).heap.size) := ⟨by simpa using i5⟩
      have HP : Aside0 (∀ k, Pv k → E + 1 ≤ k) := ⟨i4⟩
      clear i1 i2 i3 i4 i5 kE k9 f9
      generalize V2.setCell ⟨B, 9, none⟩ (.string ⟨#[]⟩) = V3 at hI3 hI4 HT3 HK3 HBut3 HZ3 ⊢
      have HS : ∀ w', Below V3.heap.size V3 w' → (fun w' : World => w'.cell? ⟨E, 0, none⟩ = some (.pointer (some ⟨B, 0, none⟩)) ∧ w'.heap[B]? = some (.cells (shaCells true z ⟨#[]⟩ N) 158 (0, 0))) w' := fun w' hb => ⟨(blk_cell (blk_below hI4.out hb) 0).trans rfl, hI3.out.below hb⟩
      refine startR (n := 13) (S := fun w' => w'.cell? ⟨E, 0, none⟩ = some (.pointer (some ⟨B, 0, none⟩)) ∧ w'.heap[B]? = some (.cells (shaCells true z ⟨#[]⟩ N) 158 (0, 0))) (ds := [12]) #[false, false, false, false, false, false, false, false, false, false, false, false, false] (by kernel_rfl) (by kernel_rfl) (fun h => by obtain ⟨_, _, h⟩ := h; exact h) rfl rfl (HS _ (Below.refl _ _).drew) (fun hHeld => ?_)
      have HSd := fun (w' : World) (hb' : Below V3.drew.heap.size V3.drew w') => HS w' ((Below.refl V3.heap.size V3).drew.trans hb')
      have HTd : Aside0 (CTab V3.drew) := ⟨HT3.out.below (Below.refl _ _).drew⟩
      have HKd : Aside0 (KeptI B Pv V2 V3.drew) := ⟨HK3.out.trans ⟨(Below.refl _ _).drew, fun _ _ _ => rfl⟩⟩
      have HButd : Aside0 (But B E w V3.drew) := ⟨⟨HBut3.out.os, HBut3.out.tape, HBut3.out.output, HBut3.out.size, HBut3.out.block⟩⟩
      have hI4d : Aside0 (V3.drew.heap[E]? = some (.cells #[.pointer (some ⟨B, 0, none⟩)] 134 (0, 0))) := ⟨hI4.out⟩
      have HZd : Aside0 (E + 1 ≤ V3.drew.heap.size) := ⟨HZ3.out⟩
      generalize V3.drew = wd at hHeld HSd HTd HKd HButd HZd hI4d ⊢
      refine take_ (i := 0) (N := (some 30)) (v := ?_) (a' := ?_) #[true, false, false, false, false, false, false, false, false, false, false, false, false] rfl rfl (by kernel_rfl) (fun _ _ _ h => h) (Or.inl ⟨by rfl, ?_⟩) hHeld ?_ ?_
      rotate_left
      · rintro w' ⟨s0, s1⟩
        go_simp
        with_reducible rfl
      rotate_left
      · simp only [Act.put, List.setIfInBounds_toArray, List.set_cons_zero, List.set_cons_succ]
        rfl
      refine take_ (i := 1) (N := (some 31)) (v := ?_) (a' := ?_) #[true, true, false, false, false, false, false, false, false, false, false, false, false] rfl rfl (by kernel_rfl) (fun _ _ _ h => h) (Or.inl ⟨by rfl, ?_⟩) hHeld ?_ ?_
      rotate_left
      · rintro w' ⟨s0, s1⟩
        go_simp
        with_reducible rfl
      rotate_left
      · simp only [Act.put, List.setIfInBounds_toArray, List.set_cons_zero, List.set_cons_succ]
        rfl
      refine pure_ (i := 2) (N := (some 32)) (v := ?_) (a' := ?_) #[true, true, true, false, false, false, false, false, false, false, false, false, false] rfl rfl (by kernel_rfl) (fun _ _ _ h => h) (Or.inl ⟨by rfl, ?_⟩) ?_ ?_
      rotate_left
      · intro w'
        go_simp
        with_reducible rfl
      rotate_left
      · simp only [Act.put, List.setIfInBounds_toArray, List.set_cons_zero, List.set_cons_succ]
        rfl
      refine pure_ (i := 3) (N := (some 33)) (v := ?_) (a' := ?_) #[true, true, true, true, false, false, false, false, false, false, false, false, false] rfl rfl (by kernel_rfl) (fun _ _ _ h => h) (Or.inl ⟨by rfl, ?_⟩) ?_ ?_
      rotate_left
      · intro w'
        go_simp
        with_reducible rfl
      rotate_left
      · simp only [Act.put, List.setIfInBounds_toArray, List.set_cons_zero, List.set_cons_succ]
        rfl
      refine take_ (i := 4) (N := (some 34)) (v := ?_) (a' := ?_) #[true, true, true, true, true, false, false, false, false, false, false, false, false] rfl rfl (by kernel_rfl) (fun _ _ _ h => h) (Or.inl ⟨by rfl, ?_⟩) hHeld ?_ ?_
      rotate_left
      · rintro w' ⟨s0, s1⟩
        have c1 : w'.cell? ⟨B, 1, none⟩ = some (.int .u32 z.a) := (blk_cell s1 1).trans rfl
        have c2 : w'.cell? ⟨B, 2, none⟩ = some (.int .u32 z.b) := (blk_cell s1 2).trans rfl
        have c3 : w'.cell? ⟨B, 3, none⟩ = some (.int .u32 z.c) := (blk_cell s1 3).trans rfl
        have c4 : w'.cell? ⟨B, 4, none⟩ = some (.int .u32 z.d) := (blk_cell s1 4).trans rfl
        have c5 : w'.cell? ⟨B, 5, none⟩ = some (.int .u32 z.e) := (blk_cell s1 5).trans rfl
        have c6 : w'.cell? ⟨B, 6, none⟩ = some (.int .u32 z.f) := (blk_cell s1 6).trans rfl
        have c7 : w'.cell? ⟨B, 7, none⟩ = some (.int .u32 z.g) := (blk_cell s1 7).trans rfl
        have c8 : w'.cell? ⟨B, 8, none⟩ = some (.int .u32 z.h) := (blk_cell s1 8).trans rfl
        go_simp
        with_reducible rfl
      rotate_left
      · simp only [Act.put, List.setIfInBounds_toArray, List.set_cons_zero, List.set_cons_succ]
        rfl
      refine pure_ (i := 5) (N := (some 35)) (v := ?_) (a' := ?_) #[true, true, true, true, true, true, false, false, false, false, false, false, false] rfl rfl (by kernel_rfl) (fun _ _ _ h => h) (Or.inl ⟨by rfl, ?_⟩) ?_ ?_
      rotate_left
      · intro w'
        go_simp
        with_reducible rfl
      rotate_left
      · simp only [Act.put, List.setIfInBounds_toArray, List.set_cons_zero, List.set_cons_succ]
        rfl
      refine one_ (i := 6) (N := some 36) #[true, true, true, true, true, true, true, false, false, false, false, false, false] rfl rfl (by kernel_rfl) (by decide) (fun K hK => ?_)
      refine goes_ Tryz.func139 (by kernel_rfl) rfl #[.agg z.cells, .string b] (by rfl) rfl rfl (by (try simp only [List.map_toArray, List.map_cons, List.map_nil]); first | done | rfl) ?_
      refine (next_calls z b hx64.out wd HTd.out).mono ?_
      rintro e w47 ⟨rfl, hb⟩
      refine ⟨_, rfl, ?_⟩
      refine hK.out _ _ (HSd _ hb) (fun hHeld => ?_)
      have HB5 : Aside0 (Below wd.heap.size wd w47) := ⟨hb⟩
      clear hK K hb HSd
      refine norm_ (a' := ?_) ?_ ?_
      rotate_left
      · show Act.put _ (some 36) _ = _
        simp only [Act.put, List.setIfInBounds_toArray, List.set_cons_zero, List.set_cons_succ]
        rfl
      refine pure_ (i := 7) (N := (some 29)) (v := ?_) (a' := ?_) #[true, true, true, true, true, true, true, true, false, false, false, false, false] rfl rfl (by kernel_rfl) (fun _ _ _ h => h) (Or.inl ⟨by rfl, ?_⟩) ?_ ?_
      rotate_left
      · intro w'
        go_simp
        with_reducible rfl
      rotate_left
      · simp only [Act.put, List.setIfInBounds_toArray, List.set_cons_zero, List.set_cons_succ]
        rfl
      refine pure_ (i := 8) (N := (some 37)) (v := ?_) (a' := ?_) #[true, true, true, true, true, true, true, true, true, false, false, false, false] rfl rfl (by kernel_rfl) (fun _ _ _ h => h) (Or.inl ⟨by rfl, ?_⟩) ?_ ?_
      rotate_left
      · intro w'
        go_simp
        with_reducible rfl
      rotate_left
      · simp only [Act.put, List.setIfInBounds_toArray, List.set_cons_zero, List.set_cons_succ]
        rfl
      refine pure_ (i := 9) (N := (some 38)) (v := ?_) (a' := ?_) #[true, true, true, true, true, true, true, true, true, true, false, false, false] rfl rfl (by kernel_rfl) (fun _ _ _ h => h) (Or.inl ⟨by rfl, ?_⟩) ?_ ?_
      rotate_left
      · intro w'
        go_simp
        with_reducible rfl
      rotate_left
      · simp only [Act.put, List.setIfInBounds_toArray, List.set_cons_zero, List.set_cons_succ]
        rfl
      refine pure_ (i := 10) (N := (some 39)) (v := ?_) (a' := ?_) #[true, true, true, true, true, true, true, true, true, true, true, false, false] rfl rfl (by kernel_rfl) (fun _ _ _ h => h) (Or.inl ⟨by rfl, ?_⟩) ?_ ?_
      rotate_left
      · intro w'
        go_simp
        with_reducible rfl
      rotate_left
      · simp only [Act.put, List.setIfInBounds_toArray, List.set_cons_zero, List.set_cons_succ]
        rfl
      refine pure_ (i := 11) (N := (some 40)) (v := ?_) (a' := ?_) #[true, true, true, true, true, true, true, true, true, true, true, true, false] rfl rfl (by kernel_rfl) (fun _ _ _ h => h) (Or.inl ⟨by rfl, ?_⟩) ?_ ?_
      rotate_left
      · intro w'
        go_simp
        with_reducible rfl
      rotate_left
      · simp only [Act.put, List.setIfInBounds_toArray, List.set_cons_zero, List.set_cons_succ]
        rfl
      refine last_ (i := 12) (N := none) #[true, true, true, true, true, true, true, true, true, true, true, true, true] rfl rfl (by kernel_rfl) (by decide) (fun K hK => ?_)
      rw [if_pos (show Region.wanted _ _ = true from rfl)]
      refine RowStore.wp_store 155 (.tmp 40) (.tmp 37) rfl B 1 (nextX z b).cells rfl rfl 158 (shaCells true z ⟨#[]⟩ N) hHeld.2 (show 1 + 8 ≤ 11 by decide) (by kernel_rfl) (by simp [St8.cells, Value.oneCell']) ?_
      refine hK.out _ _ ?_
      clear hK K
      refine done_ (by kernel_rfl) ?_
      show KeptI B Pv V2 _ ∧ I (q ++ [(b, true)]) Pv _
      obtain ⟨hE2, hB2⟩ := hHeld
      have hwd : E + 1 ≤ wd.heap.size := HZd.out
      have hB5 := HB5.out
      refine ⟨HKd.out.trans (kept_row hB5 (by omega) _ (fun k hk => by have := HP.out k hk; omega)), ?_, ?_, but_row HButd.out hB5 (by omega) _, HP.out, by have := hB5.size; simp [World.setRow]; omega⟩
      · rw [absorb_snoc]
        have e1 : absorb1 (absorb (s, rest) q) (b, true) = (nextX z b, ⟨#[]⟩) := by rw [← hz]; rfl
        rw [e1]
        exact (setRow_heap _ B _ _ _ _ hB2).trans rfl
      · exact (setRow_other _ B E _ (by omega)).trans (blk_below hI4d.out hB5)
    | false =>
      gi_wp2_with (rw [Oper.semAt_eq _ _ _ (fun c h => by cases h)]; go_simp; try go_bits)
      have hxl : Aside0 (b.size ≤ 281474976710656) := ⟨by have := (items_long _ _ rfl _ hx.out).2.2 rfl; dsimp only at this; omega⟩
      have HT3 : Aside0 (CTab (V2.setCell ⟨B, 9, none⟩ (.string ⟨#[]⟩))) := ⟨hT.but (B := B) ⟨i3.os, i3.tape, i3.output, by have := i3.size; simpa using this, fun k hk hne => (Below.heap_setCell _ _ _ k hne).trans (i3.block k (by omega) hne)⟩ (HH.out.ne hT)⟩
      have HK3 : Aside0 (KeptI B Pv V2 (V2.setCell ⟨B, 9, none⟩ (.string ⟨#[]⟩))) := ⟨(Below.refl B V2).setCell (p := ⟨B, 9, none⟩) (Nat.le_refl _) _, fun k hk hlt => Below.heap_setCell _ _ _ k (fun e => by have := i4 _ hk; dsimp only at e; omega)⟩
      have HBut3 : Aside0 (But B E w (V2.setCell ⟨B, 9, none⟩ (.string ⟨#[]⟩))) := ⟨⟨i3.os, i3.tape, i3.output, by have := i3.size; simpa using this, fun k hk hne => (Below.heap_setCell _ _ _ k hne).trans (i3.block k hk hne)⟩⟩
      have HZ3 : Aside0 (E + 1 ≤ (V2.setCell ⟨B, 9, none⟩ (.string ⟨#[]⟩)).heap.size) := ⟨by simpa using i5⟩
      have HP : Aside0 (∀ k, Pv k → E + 1 ≤ k) := ⟨i4⟩
      clear i1 i2 i3 i4 i5 kE k9 f9
      generalize V2.setCell ⟨B, 9, none⟩ (.string ⟨#[]⟩) = V3 at hI3 hI4 HT3 HK3 HBut3 HZ3 ⊢
      have HS : ∀ w', Below V3.heap.size V3 w' → (fun w' : World => w'.cell? ⟨E, 0, none⟩ = some (.pointer (some ⟨B, 0, none⟩)) ∧ w'.heap[B]? = some (.cells (shaCells true z ⟨#[]⟩ N) 158 (0, 0))) w' := fun w' hb => ⟨(blk_cell (blk_below hI4.out hb) 0).trans rfl, hI3.out.below hb⟩
      refine startR (n := 6) (S := fun w' => w'.cell? ⟨E, 0, none⟩ = some (.pointer (some ⟨B, 0, none⟩)) ∧ w'.heap[B]? = some (.cells (shaCells true z ⟨#[]⟩ N) 158 (0, 0))) (ds := [5]) #[false, false, false, false, false, false] (by kernel_rfl) (by kernel_rfl) (fun h => by obtain ⟨_, _, h⟩ := h; exact h) rfl rfl (HS _ (Below.refl _ _).drew) (fun hHeld => ?_)
      have HSd := fun (w' : World) (hb' : Below V3.drew.heap.size V3.drew w') => HS w' ((Below.refl V3.heap.size V3).drew.trans hb')
      have HTd : Aside0 (CTab V3.drew) := ⟨HT3.out.below (Below.refl _ _).drew⟩
      have HKd : Aside0 (KeptI B Pv V2 V3.drew) := ⟨HK3.out.trans ⟨(Below.refl _ _).drew, fun _ _ _ => rfl⟩⟩
      have HButd : Aside0 (But B E w V3.drew) := ⟨⟨HBut3.out.os, HBut3.out.tape, HBut3.out.output, HBut3.out.size, HBut3.out.block⟩⟩
      have hI4d : Aside0 (V3.drew.heap[E]? = some (.cells #[.pointer (some ⟨B, 0, none⟩)] 134 (0, 0))) := ⟨hI4.out⟩
      have HZd : Aside0 (E + 1 ≤ V3.drew.heap.size) := ⟨HZ3.out⟩
      generalize V3.drew = wd at hHeld HSd HTd HKd HButd HZd hI4d ⊢
      refine take_ (i := 0) (N := (some 41)) (v := ?_) (a' := ?_) #[true, false, false, false, false, false] rfl rfl (by kernel_rfl) (fun _ _ _ h => h) (Or.inl ⟨by rfl, ?_⟩) hHeld ?_ ?_
      rotate_left
      · rintro w' ⟨s0, s1⟩
        go_simp
        with_reducible rfl
      rotate_left
      · simp only [Act.put, List.setIfInBounds_toArray, List.set_cons_zero, List.set_cons_succ]
        rfl
      refine pure_ (i := 1) (N := (some 42)) (v := ?_) (a' := ?_) #[true, true, false, false, false, false] rfl rfl (by kernel_rfl) (fun _ _ _ h => h) (Or.inl ⟨by rfl, ?_⟩) ?_ ?_
      rotate_left
      · intro w'
        go_simp
        with_reducible rfl
      rotate_left
      · simp only [Act.put, List.setIfInBounds_toArray, List.set_cons_zero, List.set_cons_succ]
        rfl
      refine one_ (i := 2) (N := some 43) #[true, true, true, false, false, false] rfl rfl (by kernel_rfl) (by decide) (fun K hK => ?_)
      refine goes_ Tryz.func140 (by kernel_rfl) rfl #[.string b] (by rfl) rfl rfl (by (try simp only [List.map_toArray, List.map_cons, List.map_nil]); first | done | rfl) ?_
      refine (stringsClone_calls b wd hxl.out).mono ?_
      rintro e w47 ⟨rfl, hb⟩
      refine ⟨_, rfl, ?_⟩
      refine hK.out _ _ (HSd _ hb) (fun hHeld => ?_)
      have HB5 : Aside0 (Below wd.heap.size wd w47) := ⟨hb⟩
      clear hK K hb HSd
      refine norm_ (a' := ?_) ?_ ?_
      rotate_left
      · show Act.put _ (some 43) _ = _
        simp only [Act.put, List.setIfInBounds_toArray, List.set_cons_zero, List.set_cons_succ]
        rfl
      refine pure_ (i := 3) (N := (some 44)) (v := ?_) (a' := ?_) #[true, true, true, true, false, false] rfl rfl (by kernel_rfl) (fun _ _ _ h => h) (Or.inl ⟨by rfl, ?_⟩) ?_ ?_
      rotate_left
      · intro w'
        go_simp
        with_reducible rfl
      rotate_left
      · simp only [Act.put, List.setIfInBounds_toArray, List.set_cons_zero, List.set_cons_succ]
        rfl
      refine pure_ (i := 4) (N := (some 45)) (v := ?_) (a' := ?_) #[true, true, true, true, true, false] rfl rfl (by kernel_rfl) (fun _ _ _ h => h) (Or.inl ⟨by rfl, ?_⟩) ?_ ?_
      rotate_left
      · intro w'
        go_simp
        with_reducible rfl
      rotate_left
      · simp only [Act.put, List.setIfInBounds_toArray, List.set_cons_zero, List.set_cons_succ]
        rfl
      refine last_ (i := 5) (N := none) #[true, true, true, true, true, true] rfl rfl (by kernel_rfl) (by decide) (fun K hK => ?_)
      have c9 : w47.cell? ⟨B, 9, none⟩ = some (.string ⟨#[]⟩) := (blk_cell hHeld.2 9).trans rfl
      have f9 := blk_frozen hHeld.2 9
      go_simp
      refine hK.out _ _ ?_
      clear hK K
      refine done_ (by kernel_rfl) ?_
      show KeptI B Pv V2 _ ∧ I (q ++ [(b, false)]) Pv _
      obtain ⟨hE2, hB2⟩ := hHeld
      have hwd : E + 1 ≤ wd.heap.size := HZd.out
      have hB5 := HB5.out
      refine ⟨HKd.out.trans (kept_cell hB5 (by omega) _ _ (fun k hk => by have := HP.out k hk; omega)), ?_, ?_, but_cell HButd.out hB5 (by omega) _ _, HP.out, by have := hB5.size; simp; omega⟩
      · rw [absorb_snoc]
        have e1 : absorb1 (absorb (s, rest) q) (b, false) = (z, b) := by rw [← hz]; rfl
        rw [e1]
        exact blk_set hB2 9 _
      · exact (Below.heap_setCell _ _ _ E (by dsimp only; omega)).trans (blk_below hI4d.out hB5)
end Go.Proofs.YtfijhbfdkcajjaaGreatDoor.Sh

/- The contracts of sha's Write, Len, Sum, and of sha.Sum. -/
namespace Go.Proofs.YtfijhbfdkcajjaaGreatDoor.Sh
open Go.RowKit Go.Proofs.YtfijhbfdkcajjaaGreatDoorW.PrintWords Go.Proofs.YtfijhbfdkcajjaaGreatDoorW.PrintLast Go.Proofs.YtfijhbfdkcajjaaGreatDoorW.PrintMore
set_option linter.unusedVariables false
set_option linter.unusedSimpArgs false
theorem absorb_rest : ∀ (l : List Part) (p : St8 × ByteArray), p.2.size < 64 → (∀ x, x ∈ l → x.2 = false → x.1.size < 64) → (absorb p l).2.size < 64
  | [], p, hp, _ => hp
  | x :: l, p, hp, h => by
    refine absorb_rest l (absorb1 p x) ?_ (fun y hy => h y (List.mem_cons_of_mem _ hy))
    unfold absorb1
    cases hx : x.2
    · exact h x (List.mem_cons_self) hx
    · exact (by decide : (0 : Nat) < 64)
theorem taken_rest (s : St8) (rest t : ByteArray) (hr : rest.size < 64) : (taken s rest t).2.size < 64 :=
  absorb_rest _ _ hr (fun x hx => (items_long _ _ rfl x hx).2.2)
def padA (n : Nat) : ByteArray := ⟨(padB n).toArray⟩
theorem padA_size (n : Nat) : (padA n).size ≤ 72 := by
  have : zeros n < 64 := Nat.mod_lt _ (by decide)
  have h : (padA n).size = (padB n).length := rfl
  rw [h]
  simp [padB]
  omega
/-- The digest of what was taken. -/
def sumX (s : St8) (rest : ByteArray) (n : Nat) : ByteArray := strOfNums (stateBytes (taken s rest (padA n)).1)
def shaSum (t : ByteArray) : ByteArray := sumX (taken st0 ⟨#[]⟩ t).1 (taken st0 ⟨#[]⟩ t).2 t.size
theorem But.below {B n : Nat} {w w' : World} (h : But B w.heap.size w w') (hn : n ≤ w.heap.size) (hB : n ≤ B) : Below n w w' :=
  ⟨h.os, h.tape, h.output, h.size, fun k hk => h.block k (by omega) (by omega)⟩
theorem But.trans {B n m : Nat} {u v w : World} (h : But B n u v) (k : But B m v w) (hm : n ≤ m) : But B n u w :=
  ⟨k.os.trans h.os, k.tape.trans h.tape, k.output.trans h.output, Nat.le_trans h.size k.size, fun i hi hne => (k.block i (by omega) hne).trans (h.block i hi hne)⟩
theorem But.of_below {B n : Nat} {w w' : World} (h : Below n w w') : But B n w w' := ⟨h.os, h.tape, h.output, h.size, fun k hk _ => h.block k hk⟩
set_option maxRecDepth 100000 in
theorem write_calls (B : Nat) (s : St8) (rest t : ByteArray) (n : Nat) (w : World) (h : IsSha w B s rest n) (hT : CTab w) (hn : n + t.size ≤ 4294967296) (hr : rest.size < 64) :
    Calls Tryz.prog 105 #[.pointer (some ⟨B, 0, none⟩), .string t] w fun e w' =>
      e = .returned (.int .i64 0) ∧ IsSha w' B (taken s rest t).1 (taken s rest t).2 ((n + t.size : Nat) : Int) ∧ But B w.heap.size w w' := by
  have H := Aside0.mk h
  have HT := Aside0.mk hT
  have cn : w.cell? ⟨B, 10, none⟩ = some (.int .u64 (n : Int)) := (blk_cell h 10).trans rfl
  clear h hT
  go_enter Tryz.func105, Tryz.ntmps105
  go_wp2_with fail
  refine (sha_none w B s rest n H.out).mono ?_
  rintro e w1 ⟨rfl, rfl⟩
  have d0 : decide (4294967296 - (n : Int) < (t.size : Int)) = false := decide_eq_false (by omega)
  go_wp2_with fail
  refine (takes_calls B s rest t n _ H.out HT.out (by omega) (by omega) hr).mono ?_
  rintro e w2 ⟨rfl, hi, hb⟩
  go_wp2
  go_ret
  exact ⟨rfl, hi, hb⟩
set_option maxRecDepth 100000 in
theorem len_calls (B : Nat) (s : St8) (rest : ByteArray) (n : Int) (w : World) (h : IsSha w B s rest n) :
    Calls Tryz.prog 107 #[.pointer (some ⟨B, 0, none⟩)] w fun e w' => e = .returned (.int .u64 n) ∧ w' = w := by
  have H := Aside0.mk h
  have cn : w.cell? ⟨B, 10, none⟩ = some (.int .u64 (n : Int)) := (blk_cell h 10).trans rfl
  clear h
  go_enter Tryz.func107, Tryz.ntmps107
  go_wp2_with fail
  refine (sha_none w B s rest n H.out).mono ?_
  rintro e w1 ⟨rfl, rfl⟩
  go_wp2
  go_ret
  exact ⟨rfl, rfl⟩
set_option maxRecDepth 100000 in
theorem sum_calls (B : Nat) (s : St8) (rest : ByteArray) (n : Nat) (w : World) (h : IsSha w B s rest n) (hT : CTab w) (hn : n < 1152921504606846976) (hr : rest.size < 64) :
    Calls Tryz.prog 108 #[.pointer (some ⟨B, 0, none⟩)] w fun e w' =>
      e = .returned (.tuple #[.string (sumX s rest n), .int .i64 0]) ∧ Below w.heap.size w w' := by
  have H := Aside0.mk h
  have HT := Aside0.mk hT
  clear h hT
  go_enter Tryz.func108, Tryz.ntmps108
  go_wp2_with fail
  refine (sha_none w B s rest n H.out).mono ?_
  rintro e w1 ⟨rfl, rfl⟩
  go_wp2_with fail
  refine (sha_copy _ B s rest n H.out).mono ?_
  rintro e w2 ⟨rfl, hi, hb⟩
  have h2 : IsSha w2 B s rest n := H.out.below hb
  have cn : w2.cell? ⟨B, 10, none⟩ = some (.int .u64 (n : Int)) := (blk_cell h2 10).trans rfl
  have HI := Aside0.mk hi
  have HB := Aside0.mk hb
  clear hi hb h2
  go_wp2_with fail
  refine (padding_calls n hn w2).mono ?_
  rintro e w3 ⟨rfl, hb3⟩
  have HI3 := Aside0.mk (HI.out.below hb3)
  have HT3 := Aside0.mk ((HT.out.below HB.out).below hb3)
  have HB3 := Aside0.mk (HB.out.trans (hb3.mono HB.out.size))
  clear hb3
  rw [show (⟨(padB n).toArray⟩ : ByteArray) = padA n from rfl]
  go_wp2_with fail
  have hp := padA_size n
  refine (takes_calls _ s rest (padA n) n _ HI3.out HT3.out (by omega) (by omega) hr).mono ?_
  rintro e w4 ⟨rfl, hi4, hb4⟩
  obtain ⟨z, hz⟩ : ∃ z, (taken s rest (padA n)).1 = z := ⟨_, rfl⟩
  obtain ⟨r4, hr4⟩ : ∃ r4, (taken s rest (padA n)).2 = r4 := ⟨_, rfl⟩
  have hs : sumX s rest n = strOfNums (stateBytes z) := by unfold sumX; rw [hz]
  have HSs := Aside0.mk hs
  rw [hz, hr4] at hi4
  have HI4 := Aside0.mk hi4
  have HB4 := Aside0.mk (HB3.out.trans (hb4.below HB3.out.size (Nat.le_refl _)))
  clear hb4 hs hz hr4
  obtain ⟨N4, hN4⟩ : ∃ N4 : Int, ((n + (padA n).size : Nat) : Int) = N4 := ⟨_, rfl⟩
  rw [hN4] at hi4
  have c1 := (blk_cell hi4 1).trans (rfl : _ = some (Value.int .u32 z.a))
  have c2 := (blk_cell hi4 2).trans (rfl : _ = some (Value.int .u32 z.b))
  have c3 := (blk_cell hi4 3).trans (rfl : _ = some (Value.int .u32 z.c))
  have c4 := (blk_cell hi4 4).trans (rfl : _ = some (Value.int .u32 z.d))
  have c5 := (blk_cell hi4 5).trans (rfl : _ = some (Value.int .u32 z.e))
  have c6 := (blk_cell hi4 6).trans (rfl : _ = some (Value.int .u32 z.f))
  have c7 := (blk_cell hi4 7).trans (rfl : _ = some (Value.int .u32 z.g))
  have c8 := (blk_cell hi4 8).trans (rfl : _ = some (Value.int .u32 z.h))
  clear hi4
  go_wp2_with fail
  refine (digest_calls z w4).mono ?_
  rintro e w5 ⟨rfl, hb5⟩
  have HB5 := Aside0.mk (HB4.out.trans (hb5.mono HB4.out.size))
  clear hb5
  go_wp2
  go_ret2
  rw [HSs.out]
  exact ⟨rfl, HB5.out⟩
set_option maxRecDepth 100000 in
theorem shaSum_calls (t : ByteArray) (w : World) (hT : CTab w) (ht : t.size < 140737488355328) :
    Calls Tryz.prog 109 #[.string t] w fun e w' => e = .returned (.string (shaSum t)) ∧ Below w.heap.size w w' := by
  have HT := Aside0.mk hT
  clear hT
  go_enter Tryz.func109, Tryz.ntmps109
  go_wp2_with fail
  refine (sha_new w).mono ?_
  rintro e w1 ⟨B, hBl, rfl, hi, hb⟩
  have HI := Aside0.mk hi
  have HB := Aside0.mk hb
  clear hi hb
  go_wp2_with fail
  refine (takes_calls B st0 ⟨#[]⟩ t 0 w1 HI.out (HT.out.below HB.out) (by omega) ht (by decide)).mono ?_
  rintro e w2 ⟨rfl, hi2, hb2⟩
  have HI2 := Aside0.mk hi2
  have HB2 := Aside0.mk (HB.out.trans (hb2.below HB.out.size hBl))
  have HT2 := Aside0.mk ((HT.out.below HB.out).but hb2 (HI.out.ne (HT.out.below HB.out)))
  clear hi2 hb2
  go_wp2_with fail
  refine (sum_calls B _ _ (0 + t.size) w2 HI2.out HT2.out (by omega) (taken_rest _ _ _ (by decide))).mono ?_
  rintro e w3 ⟨rfl, hb3⟩
  rw [Nat.zero_add]
  have HB3 := Aside0.mk (HB2.out.trans (hb3.mono HB2.out.size))
  clear hb3
  go_wp2
  go_ret
  exact ⟨rfl, HB3.out⟩
end Go.Proofs.YtfijhbfdkcajjaaGreatDoor.Sh

/-
  DERIVED: THE SHELF's CONTRACTS AT THIS DUMP, IN PLAIN WORDS (tools/lay-plain.mjs out of 'YtfijhbfdkcajjaaGreatDoorShETry.lean', which tools/lay-shelf.mjs wrote): THE SAME DECLARATIONS UNDER THE SAME NAMES: 'import', 'namespace', 'open', 'def', 'theorem' AND NOTHING ELSE: no command of the shelf's: FOR A HAND-IN. Each laying: the table of numbers ('.._ren') and one theorem, a field a fact of the dump's own or the kernel's comparison; each contract: ONE APPLICATION.
-/
namespace Go.Proofs
open Go.Shelf
def Tryz.lays105_ren : Go.Shelf.Ren := ⟨fun | 105 => 122 | 212 => 132 | 99 => 133 | 165 => 134 | 166 => 135 | 170 => 136 | 169 => 137 | 263 => 144 | 264 => 145 | 206 => 146 | 240 => 147 | 241 => 148 | 276 => 153 | 277 => 154 | n => n, fun | 9 => 9 | 3 => 3 | 4 => 4 | 20 => 20 | 0 => 0 | 46 => 36 | 109 => 163 | 5 => 5 | 72 => 168 | 76 => 172 | 51 => 107 | 146 => 182 | 53 => 37 | 148 => 141 | 70 => 166 | 37 => 82 | 75 => 171 | 127 => 185 | 164 => 190 | 80 => 175 | n => n, fun | n => n⟩
theorem Tryz.lays105 : Go.Proofs.Lays.n105 Tryz.prog Tryz.lays105_ren := {
  mixed := by kernel_rfl
  f99 := Tryz.func133.trans (congrArg some (by kernel_rfl))
  f105 := Tryz.func122.trans (congrArg some (by kernel_rfl))
  f165 := Tryz.func134.trans (congrArg some (by kernel_rfl))
  f166 := Tryz.func135.trans (congrArg some (by kernel_rfl))
  f169 := Tryz.func137.trans (congrArg some (by kernel_rfl))
  f170 := Tryz.func136.trans (congrArg some (by kernel_rfl))
  f206 := Tryz.func146.trans (congrArg some (by kernel_rfl))
  f212 := Tryz.func132.trans (congrArg some (by kernel_rfl))
  f240 := Tryz.func147.trans (congrArg some (by kernel_rfl))
  f241 := Tryz.func148.trans (congrArg some (by kernel_rfl))
  f263 := Tryz.func144.trans (congrArg some (by kernel_rfl))
  f264 := Tryz.func145.trans (congrArg some (by kernel_rfl))
  f276 := Tryz.func153.trans (congrArg some (by kernel_rfl))
  f277 := Tryz.func154.trans (congrArg some (by kernel_rfl))
  t0 := Tryz.underlying0
  a0 := Tryz.isAgg0
  z0 := Tryz.sizeOf0
  v0 := Tryz.zeroValue0
  t3 := Tryz.underlying3
  a3 := Tryz.isAgg3
  z3 := Tryz.sizeOf3
  v3 := Tryz.zeroValue3
  t4 := Tryz.underlying4
  a4 := Tryz.isAgg4
  z4 := Tryz.sizeOf4
  v4 := Tryz.zeroValue4
  t5 := Tryz.underlying5
  a5 := Tryz.isAgg5
  z5 := Tryz.sizeOf5
  v5 := Tryz.zeroValue5
  t9 := Tryz.underlying9
  a9 := Tryz.isAgg9
  z9 := Tryz.sizeOf9
  v9 := Tryz.zeroValue9
  t20 := Tryz.underlying20
  a20 := Tryz.isAgg20
  z20 := Tryz.sizeOf20
  v20 := Tryz.zeroValue20
  t37 := Tryz.underlying82
  a37 := Tryz.isAgg82
  z37 := Tryz.sizeOf82
  v37 := Tryz.zeroValue82
  t46 := Tryz.underlying36
  a46 := Tryz.isAgg36
  z46 := Tryz.sizeOf36
  v46 := Tryz.zeroValue36
  t51 := Tryz.underlying107
  a51 := Tryz.isAgg107
  z51 := Tryz.sizeOf107
  v51 := Tryz.zeroValue107
  t53 := Tryz.underlying37
  a53 := Tryz.isAgg37
  z53 := Tryz.sizeOf37
  v53 := Tryz.zeroValue37
  t70 := Tryz.underlying166
  a70 := Tryz.isAgg166
  z70 := Tryz.sizeOf166
  v70 := Tryz.zeroValue166
  t72 := Tryz.underlying168
  a72 := Tryz.isAgg168
  z72 := Tryz.sizeOf168
  v72 := Tryz.zeroValue168
  t75 := Tryz.underlying171
  a75 := Tryz.isAgg171
  z75 := Tryz.sizeOf171
  v75 := Tryz.zeroValue171
  t76 := Tryz.underlying172
  a76 := Tryz.isAgg172
  z76 := Tryz.sizeOf172
  v76 := Tryz.zeroValue172
  t109 := Tryz.underlying163
  a109 := Tryz.isAgg163
  z109 := Tryz.sizeOf163
  v109 := Tryz.zeroValue163
  t127 := Tryz.underlying185
  a127 := Tryz.isAgg185
  z127 := Tryz.sizeOf185
  v127 := Tryz.zeroValue185
  t146 := Tryz.underlying182
  a146 := Tryz.isAgg182
  z146 := Tryz.sizeOf182
  v146 := Tryz.zeroValue182
  t148 := Tryz.underlying141
  a148 := Tryz.isAgg141
  z148 := Tryz.sizeOf141
  v148 := Tryz.zeroValue141
  t164 := Tryz.underlying190
  a164 := Tryz.isAgg190
  z164 := Tryz.sizeOf190
  v164 := Tryz.zeroValue190 }
theorem Tryz.Builder_Extra_105 : Builder.Extra Tryz.prog Tryz.lays105_ren := {
  sizeBuilder := by kernel_rfl
  liesBuilder := by kernel_rfl
  t5 := Tryz.underlying5
  a5 := Tryz.isAgg5
  z5 := Tryz.sizeOf5
  v5 := Tryz.zeroValue5
  infoByte := by kernel_rfl
  cellsByte := by kernel_rfl
  sizeByte := by kernel_rfl
  neB5 := by decide }
open Go.RowKit Go.Lib in
/-- **strings.Repeat: count ≥ 0, the result within one allocation: count copies of s.** (LAID: no walk: one application.) -/
theorem Tryz.strings_Repeat (s : ByteArray) (c : Nat) (w : World) (hc : c ≤ 9223372036854775807) (hlen : s.size * c ≤ 140737488355328) :
    Calls Tryz.prog 122 #[.string s, .int .i64 c] w fun e w' => e = .returned (.string ⟨(Lib.repeatL s.data.toList c).toArray⟩) ∧ Below w.heap.size w w' := Any.strings_Repeat Tryz.lays105 Tryz.Builder_Extra_105 s c w hc hlen
end Go.Proofs

/- The contracts of hmac.with, hmac.Block. -/
namespace Go.Proofs.YtfijhbfdkcajjaaGreatDoor.Sh
open Go.RowKit Go.Proofs.YtfijhbfdkcajjaaGreatDoorW.PrintWords Go.Proofs.YtfijhbfdkcajjaaGreatDoorW.PrintLast Go.Proofs.YtfijhbfdkcajjaaGreatDoorW.PrintMore
set_option linter.unusedVariables false
set_option linter.unusedSimpArgs false
def xorL (c : UInt8) (l : List UInt8) : List UInt8 := l.map (fun b => b ^^^ c)
/-- The first k put together with c. -/
def mixed (c : UInt8) (l : List UInt8) (k : Nat) : List UInt8 := xorL c (l.take k) ++ l.drop k
theorem mixed_len (c : UInt8) (l : List UInt8) (k : Nat) : (mixed c l k).length = l.length := by simp [mixed, xorL]; omega
theorem mixed_at (c : UInt8) (l : List UInt8) (k j : Nat) (hj : j < l.length) : (mixed c l k)[j]'(by rw [mixed_len]; exact hj) = if j < k then l[j] ^^^ c else l[j] := by
  unfold mixed
  split
  · rw [List.getElem_append_left (by simp [xorL]; omega)]; simp [xorL]
  · rw [List.getElem_append_right (by simp [xorL]; omega)]; simp [xorL]; congr 1; omega
theorem xor_u8 (x y : UInt8) : bits BinOp.xor IntKind.u8 (x.toNat : Int) (y.toNat : Int) = ((x ^^^ y).toNat : Int) := by
  have hx : x.toNat < 256 := x.toNat_lt
  have hy : y.toNat < 256 := y.toNat_lt
  have hz : (x ^^^ y).toNat < 256 := (x ^^^ y).toNat_lt
  have ha : x.toNat % 2 ^ IntKind.u8.bits = x.toNat := Nat.mod_eq_of_lt hx
  have hb : y.toNat % 2 ^ IntKind.u8.bits = y.toNat := Nat.mod_eq_of_lt hy
  simp only [bits, BitVec.ofInt_natCast, BitVec.toNat_xor, BitVec.toNat_ofNat, ha, hb]
  rw [← UInt8.toNat_xor, IntKind.wrap_u8]
  omega
theorem mixed_getD (c : UInt8) (l : List UInt8) (k j : Nat) (hj : j < l.length) : (mixed c l (k + 1)).getD j 0 = if j = k then (mixed c l k).getD k 0 ^^^ c else (mixed c l k).getD j 0 := by
  have g : ∀ k j, j < l.length → (mixed c l k).getD j 0 = if j < k then l.getD j 0 ^^^ c else l.getD j 0 := fun k j hj => by
    have h1 : j < (mixed c l k).length := by rw [mixed_len]; exact hj
    rw [List.getD_eq_getElem?_getD, List.getElem?_eq_getElem h1, Option.getD_some, mixed_at c l k j hj, List.getD_eq_getElem?_getD, List.getElem?_eq_getElem hj, Option.getD_some]
  rw [g _ _ hj]
  by_cases h : j = k
  · subst h; rw [if_pos (by omega), if_pos rfl, g _ _ hj, if_neg (by omega)]
  · rw [if_neg h, g _ _ hj]
    by_cases h2 : j < k
    · rw [if_pos (by omega), if_pos h2]
    · rw [if_neg (by omega), if_neg h2]
set_option maxRecDepth 100000 in
set_option maxHeartbeats 4000000 in
theorem with_calls (s : ByteArray) (c : UInt8) (w : World) (hs : s.size ≤ 140737488355328) : Calls Tryz.prog 104 #[.string s, .int .u8 (c.toNat : Int)] w fun e w' => e = .returned (.string ⟨(xorL c s.data.toList).toArray⟩) ∧ Below w.heap.size w w' := by
  have hcv := run_bytes_of_string (P := Tryz.prog) w 9 82 5 s Tryz.underlying9 Tryz.underlying82 Tryz.underlying5
  obtain ⟨l, hl⟩ : ∃ l, s.data.toList = l := ⟨_, rfl⟩
  have hll : l.length = s.size := by rw [← hl]; rfl
  generalize hcp : grownCap w s.size 0 5 = cp at hcv
  have HC0 : Aside0 (∀ j, j < s.size → ((w.alloc (.cells (bytesRow s cp) 5 ((bytesRow s cp).size, (bytesRow s cp).size + 1))).drew).cell? ⟨w.heap.size, j, none⟩ = some (.int .u8 (((mixed c l 0).getD j 0).toNat : Int))) := ⟨fun j hj => by
    rw [World.cell?_drew, World.cell?_alloc_mark]
    have h1 : j < l.length := by omega
    unfold bytesRow
    rw [Array.getElem?_append_left (by simp; exact hj)]
    simp only [mixed, xorL, List.take_zero, List.map_nil, List.drop_zero, List.nil_append]
    rw [List.getD_eq_getElem?_getD, List.getElem?_eq_getElem h1, Option.getD_some, Array.getElem?_map]
    subst hl
    rw [Array.getElem_toList, Array.getElem?_eq_getElem (by exact hj)]
    rfl⟩
  have HF0 : Aside0 (∀ j, j < s.size → ((w.alloc (.cells (bytesRow s cp) 5 ((bytesRow s cp).size, (bytesRow s cp).size + 1))).drew).frozen? ⟨w.heap.size, j, none⟩ = false) := ⟨fun j hj => by
    rw [World.frozen?_drew, World.frozen?_alloc_mark]
    have : s.size ≤ (bytesRow s cp).size := by unfold bytesRow; simp
    simp
    omega⟩
  have HB0 : Aside0 (Below w.heap.size w ((w.alloc (.cells (bytesRow s cp) 5 ((bytesRow s cp).size, (bytesRow s cp).size + 1))).drew)) := ⟨((Below.refl _ _).alloc (Nat.le_refl _) _).drew⟩
  have HL := Aside0.mk hl
  have HLL := Aside0.mk hll
  clear hcp hl hll
  go_enter Tryz.func104, Tryz.ntmps104
  go_wp2_with fail
  generalize (w.alloc (.cells (bytesRow s cp) 5 ((bytesRow s cp).size, (bytesRow s cp).size + 1))).drew = W0 at HC0 HF0 HB0 ⊢
  clear hcv
  go_loopw [11] (fun v11 wr => ∃ k : Nat, v11 = .int .i64 (k : Int) ∧ k ≤ s.size ∧ Aside0 (∀ j, j < s.size → wr.cell? ⟨w.heap.size, j, none⟩ = some (.int .u8 (((mixed c l k).getD j 0).toNat : Int))) ∧ Aside0 (∀ j, j < s.size → wr.frozen? ⟨w.heap.size, j, none⟩ = false) ∧ Aside0 (Below w.heap.size w wr)) (fun v11 _ => s.size - (intOf v11).toNat)
  case atStart => exact ⟨0, rfl, by omega, HC0, HF0, HB0⟩
  case round =>
    clear HC0 HF0 HB0
    obtain ⟨k, rfl, hk, HC, HF, HB⟩ := hrel
    by_cases hlt : k < s.size
    · have d0 : decide ((k : Int) < (s.size : Int)) = true := decide_eq_true (by omega)
      have i1 : (k : Int) < (s.size : Int) := by omega
      have i2 : (0 : Int) ≤ (k : Int) := by omega
      have cx := HC.out k hlt
      have fx := HF.out k hlt
      go_wp2_with fail
      go_roundw
      case rel =>
        refine ⟨k + 1, by go_num, by omega, ⟨fun j hj => ?_⟩, ⟨fun j hj => ?_⟩, ⟨HB.out.setCell (Nat.le_refl _) _⟩⟩
        · rw [mixed_getD c l k j (by have := HLL.out; omega)]
          by_cases h : j = k
          · subst h
            rw [if_pos rfl]
            refine (World.cell?_setCell_same _ _ _ cx).trans ?_
            rw [← List.getD_eq_getElem?_getD, xor_u8]
          · rw [if_neg h]
            refine (World.cell?_setCell_other _ _ _ _ ?_).trans (HC.out j hj)
            intro e; injection e with _ e _; exact h e.symm
        · rw [World.frozen?_setCell]; exact HF.out j hj
      case measure => simp [intOf]; omega
    · have d0 : decide ((k : Int) < (s.size : Int)) = false := decide_eq_false (by omega)
      obtain rfl : k = s.size := by omega
      have hcv : (convert 82 9 (.slice (some ⟨w.heap.size, 0, none⟩) s.size cp)).run Tryz.prog wr = .ok (.string ⟨(xorL c l).toArray⟩) wr := by
        have hx : (xorL c l).length = s.size := by rw [← HLL.out]; simp [xorL]
        have := run_convert_bytes_back (P := Tryz.prog) wr 82 9 5 ⟨w.heap.size, 0, none⟩ cp (xorL c l) Tryz.underlying82 Tryz.underlying5 Tryz.underlying9 (fun j hj => by
          rw [add_plain]
          refine (HC.out j (by omega)).trans ?_
          have e : mixed c l s.size = xorL c l := by unfold mixed; rw [← HLL.out]; simp
          rw [e, List.getD_eq_getElem?_getD, List.getElem?_eq_getElem hj, Option.getD_some])
        rwa [hx] at this
      go_wp2
      go_ret
      rw [HL.out]
      exact ⟨rfl, HB.out⟩
theorem sumX_size (s : St8) (rest : ByteArray) (n : Nat) : (sumX s rest n).size = 32 := by
  unfold sumX
  have h : ∀ xs : List Int, (strOfNums xs).size = xs.length := fun xs => by
    show (strOfNums xs).data.size = _
    simp [strOfNums, bytesOf]
  rw [h]
  unfold stateBytes
  rw [bytes_len]
  rfl
theorem shaSum_size (t : ByteArray) : (shaSum t).size = 32 := sumX_size _ _ _
/-- A key's block. -/
def keyOf (key : ByteArray) : ByteArray := if 64 < key.size then shaSum key else key
theorem keyOf_size (key : ByteArray) : (keyOf key).size ≤ 64 := by
  unfold keyOf
  split
  · rw [shaSum_size]; omega
  · omega
def blockOf (key : ByteArray) : ByteArray := keyOf key ++ ⟨(Lib.repeatL [0] (64 - (keyOf key).size)).toArray⟩
theorem repeat_len (n : Nat) : (Lib.repeatL ([0] : List UInt8) n).length = n := by
  first | (simp [Lib.repeatL]; done) | (induction n with | zero => rfl | succ n ih => simp [Lib.repeatL] at *; omega)
theorem block_tail (key k : ByteArray) (hk : keyOf key = k) : ∃ z : ByteArray, k.size ≤ 64 ∧ z.size ≤ 64 ∧ blockOf key = k ++ z ∧ ∀ w, Calls Tryz.prog 122 #[.string ⟨#[0]⟩, .int .i64 (64 - (k.size : Int))] w fun e w' => e = .returned (.string z) ∧ Below w.heap.size w w' := by
  have h := keyOf_size key
  rw [hk] at h
  refine ⟨⟨(Lib.repeatL [0] (64 - k.size)).toArray⟩, h, ?_, by unfold blockOf; rw [hk], fun w => ?_⟩
  · show (Lib.repeatL ([0] : List UInt8) (64 - k.size)).length ≤ 64
    rw [repeat_len]; omega
  have e : (64 - (k.size : Int)) = ((64 - k.size : Nat) : Int) := by omega
  rw [e]
  exact Tryz.strings_Repeat ⟨#[0]⟩ (64 - k.size) w (by omega) (by show 1 * _ ≤ _; omega)
set_option maxRecDepth 100000 in
theorem block_calls (key : ByteArray) (w : World) (hT : CTab w) (hk : key.size < 140737488355328) : Calls Tryz.prog 102 #[.string key] w fun e w' => e = .returned (.string (blockOf key)) ∧ Below w.heap.size w w' := by
  have HT := Aside0.mk hT
  clear hT
  go_enter Tryz.func102, Tryz.ntmps102
  by_cases h : 64 < key.size
  · have d0 : decide ((64 : Int) < (key.size : Int)) = true := decide_eq_true (by omega)
    go_wp2_with fail
    refine (shaSum_calls key w HT.out hk).mono ?_
    rintro e w1 ⟨rfl, hb⟩
    obtain ⟨z, h1, h3, h4, h2⟩ := block_tail key (shaSum key) (by unfold keyOf; rw [if_pos h])
    have HK := Aside0.mk h4
    clear h4
    generalize shaSum key = k at h1 h2 HK ⊢
    go_wp2_with fail
    refine (h2 w1).mono ?_
    rintro e w2 ⟨rfl, hb2⟩
    go_wp2
    go_ret
    rw [HK.out]
    exact ⟨rfl, hb.trans (hb2.mono hb.size)⟩
  · have d0 : decide ((64 : Int) < (key.size : Int)) = false := decide_eq_false (by omega)
    obtain ⟨z, h1, h3, h4, h2⟩ := block_tail key key (by unfold keyOf; rw [if_neg h])
    have HK := Aside0.mk h4
    clear h4
    go_wp2_with fail
    refine (h2 w).mono ?_
    rintro e w2 ⟨rfl, hb2⟩
    go_wp2
    go_ret
    rw [HK.out]
    exact ⟨rfl, hb2⟩
end Go.Proofs.YtfijhbfdkcajjaaGreatDoor.Sh

/- The contracts of hmac's New, Write, Sum, First. -/
namespace Go.Proofs.YtfijhbfdkcajjaaGreatDoor.Sh
open Go.RowKit Go.Proofs.YtfijhbfdkcajjaaGreatDoorW.PrintWords Go.Proofs.YtfijhbfdkcajjaaGreatDoorW.PrintLast Go.Proofs.YtfijhbfdkcajjaaGreatDoorW.PrintMore
set_option linter.unusedVariables false
set_option linter.unusedSimpArgs false
def xorB (c : UInt8) (b : ByteArray) : ByteArray := ⟨(xorL c b.data.toList).toArray⟩
theorem xorB_size (c : UInt8) (b : ByteArray) : (xorB c b).size = b.size := by
  show (xorL c b.data.toList).length = b.data.size
  simp [xorL]
theorem blockOf_size (key : ByteArray) : (blockOf key).size = 64 := by
  have h := keyOf_size key
  unfold blockOf
  rw [ByteArray.size_append]
  have : (⟨(Lib.repeatL [0] (64 - (keyOf key).size)).toArray⟩ : ByteArray).size = 64 - (keyOf key).size := repeat_len _
  omega
/-- Block M is a running mac. -/
def IsMac (w : World) (M B : Nat) (o : ByteArray) : Prop := w.heap[M]? = some (.cells #[.pointer (some ⟨B, 0, none⟩), .string o] 139 (0, 0))
theorem IsMac.below {w w' : World} {M B : Nat} {o : ByteArray} (h : IsMac w M B o) (hb : Below w.heap.size w w') : IsMac w' M B o := blk_below h hb
/-- Behind the key. -/
def keyed (key : ByteArray) : St8 × ByteArray := taken st0 ⟨#[]⟩ (xorB 54 (blockOf key))
set_option maxRecDepth 100000 in
set_option maxHeartbeats 4000000 in
theorem macNew_calls (key : ByteArray) (w : World) (hT : CTab w) (hk : key.size < 140737488355328) : Calls Tryz.prog 86 #[.string key] w fun e w' =>
    ∃ M, e = .returned (.pointer (some ⟨M, 0, none⟩)) ∧ w.heap.size ≤ M ∧ ∃ B, w.heap.size ≤ B ∧ M ≠ B ∧ IsMac w' M B (xorB 92 (blockOf key)) ∧ IsSha w' B (keyed key).1 (keyed key).2 64 ∧ Below w.heap.size w w' := by
  have HT := Aside0.mk hT
  have hbz := blockOf_size key
  clear hT
  go_enter Tryz.func86, Tryz.ntmps86
  go_wp2_with fail
  refine (block_calls key w HT.out hk).mono ?_
  rintro e w1 ⟨rfl, hb1⟩
  have HKD : Aside0 (keyed key = taken st0 ⟨#[]⟩ (xorB 54 (blockOf key))) := ⟨rfl⟩
  generalize hbk : blockOf key = b at hbz HKD ⊢
  have HBK := Aside0.mk hbk
  clear hbk
  have hbs : Aside0 (b.size ≤ 140737488355328) := ⟨by omega⟩
  have hxs : Aside0 (0 + (xorB 54 b).size ≤ 4294967296) := ⟨by rw [xorB_size]; omega⟩
  have hx64 : Aside0 ((xorB 54 b).size = 64) := ⟨by rw [xorB_size]; omega⟩
  have HB1 := Aside0.mk hb1
  clear hb1 hbz
  go_wp2_with fail
  refine (sha_new w1).mono ?_
  rintro e w2 ⟨B, hB, rfl, hi2, hb2⟩
  have HI2 := Aside0.mk hi2
  have HB2 := Aside0.mk (HB1.out.trans (hb2.mono HB1.out.size))
  have HBB : Aside0 (w.heap.size ≤ B) := ⟨Nat.le_trans HB1.out.size hB⟩
  have HT2 := Aside0.mk ((HT.out.below HB1.out).below hb2)
  clear hi2 hb2 hB
  go_wp2_with fail
  refine (with_calls b 92 w2 hbs.out).mono ?_
  rintro e w3 ⟨rfl, hb3⟩
  rw [show (⟨(xorL 92 b.data.toList).toArray⟩ : ByteArray) = xorB 92 b from rfl]
  have HI3 := Aside0.mk (HI2.out.below hb3)
  have HB3 := Aside0.mk (HB2.out.trans (hb3.mono HB2.out.size))
  have HT3 := Aside0.mk (HT2.out.below hb3)
  clear hb3 HI2 HT2 HB2
  obtain ⟨w4, hw4⟩ : ∃ w4, w3.alloc (.cells #[.pointer (some ⟨B, 0, none⟩), .string (xorB 92 b)] 139) = w4 := ⟨_, rfl⟩
  have HM4 : Aside0 (w4.heap[w3.heap.size]? = some (.cells #[.pointer (some ⟨B, 0, none⟩), .string (xorB 92 b)] 139 (0, 0))) := ⟨by rw [← hw4]; exact World.alloc_heap_new w3 _⟩
  have hb4 : Below w3.heap.size w3 w4 := by rw [← hw4]; exact (Below.refl _ _).alloc (Nat.le_refl _) _
  have HI4 := Aside0.mk (HI3.out.below hb4)
  have HB4 := Aside0.mk (HB3.out.trans (hb4.mono HB3.out.size))
  have HT4 := Aside0.mk (HT3.out.below hb4)
  have HZ4 : Aside0 (w3.heap.size < w4.heap.size) := ⟨blk_lt HM4.out⟩
  have HBM : Aside0 (B < w3.heap.size) := ⟨HI3.out.lt⟩
  have HMW : Aside0 (w.heap.size ≤ w3.heap.size) := ⟨HB3.out.size⟩
  clear HI3 HB3 HT3 hb4
  have HW4 := Aside0.mk hw4
  clear hw4
  go_wp2_with fail
  try rw [HW4.out]
  have HS : ∀ w', Below w4.heap.size w4 w' → (fun w' => w'.cell? ⟨w3.heap.size, 0, none⟩ = some (.pointer (some ⟨B, 0, none⟩))) w' := fun w' hb => (blk_cell (blk_below HM4.out hb) 0).trans rfl
  refine start_ (n := 8) (S := fun w' => w'.cell? ⟨w3.heap.size, 0, none⟩ = some (.pointer (some ⟨B, 0, none⟩))) (ds := [7]) #[false, false, false, false, false, false, false, false] (by kernel_rfl) rfl rfl (HS _ (Below.refl _ _).drew) (fun hHeld => ?_)
  have HSd := fun (w' : World) (hb' : Below w4.drew.heap.size w4.drew w') => HS w' ((Below.refl w4.heap.size w4).drew.trans hb')
  have HId : Aside0 (IsSha w4.drew B st0 ⟨#[]⟩ 0) := ⟨HI4.out.below (Below.refl _ _).drew⟩
  have HTd : Aside0 (CTab w4.drew) := ⟨HT4.out.below (Below.refl _ _).drew⟩
  have HMd : Aside0 (w4.drew.heap[w3.heap.size]? = some (.cells #[.pointer (some ⟨B, 0, none⟩), .string (xorB 92 b)] 139 (0, 0))) := ⟨HM4.out⟩
  have HBd : Aside0 (Below w.heap.size w w4.drew) := ⟨HB4.out.drew⟩
  have HZd : Aside0 (w3.heap.size < w4.drew.heap.size) := ⟨HZ4.out⟩
  generalize w4.drew = wd at hHeld HSd HId HTd HMd HBd HZd ⊢
  refine pure_ (i := 0) (N := (some 13)) (v := ?_) (a' := ?_) #[true, false, false, false, false, false, false, false] rfl rfl (by kernel_rfl) (fun _ _ _ h => h) (Or.inl ⟨by rfl, ?_⟩) ?_ ?_
  rotate_left
  · intro w'
    go_simp
    with_reducible rfl
  rotate_left
  · simp only [Act.put, List.setIfInBounds_toArray, List.set_cons_zero, List.set_cons_succ]
    rfl
  refine pure_ (i := 1) (N := (some 14)) (v := ?_) (a' := ?_) #[true, true, false, false, false, false, false, false] rfl rfl (by kernel_rfl) (fun _ _ _ h => h) (Or.inl ⟨by rfl, ?_⟩) ?_ ?_
  rotate_left
  · intro w'
    go_simp
    with_reducible rfl
  rotate_left
  · simp only [Act.put, List.setIfInBounds_toArray, List.set_cons_zero, List.set_cons_succ]
    rfl
  refine pure_ (i := 2) (N := (some 15)) (v := ?_) (a' := ?_) #[true, true, true, false, false, false, false, false] rfl rfl (by kernel_rfl) (fun _ _ _ h => h) (Or.inl ⟨by rfl, ?_⟩) ?_ ?_
  rotate_left
  · intro w'
    go_simp
    with_reducible rfl
  rotate_left
  · simp only [Act.put, List.setIfInBounds_toArray, List.set_cons_zero, List.set_cons_succ]
    rfl
  refine pure_ (i := 3) (N := (some 16)) (v := ?_) (a' := ?_) #[true, true, true, true, false, false, false, false] rfl rfl (by kernel_rfl) (fun _ _ _ h => h) (Or.inl ⟨by rfl, ?_⟩) ?_ ?_
  rotate_left
  · intro w'
    go_simp
    with_reducible rfl
  rotate_left
  · simp only [Act.put, List.setIfInBounds_toArray, List.set_cons_zero, List.set_cons_succ]
    rfl
  refine take_ (i := 4) (N := (some 17)) (v := ?_) (a' := ?_) #[true, true, true, true, true, false, false, false] rfl rfl (by kernel_rfl) (fun _ _ _ h => h) (Or.inl ⟨by rfl, ?_⟩) hHeld ?_ ?_
  rotate_left
  · rintro w' s0
    go_simp
    with_reducible rfl
  rotate_left
  · simp only [Act.put, List.setIfInBounds_toArray, List.set_cons_zero, List.set_cons_succ]
    rfl
  refine pure_ (i := 5) (N := (some 18)) (v := ?_) (a' := ?_) #[true, true, true, true, true, true, false, false] rfl rfl (by kernel_rfl) (fun _ _ _ h => h) (Or.inl ⟨by rfl, ?_⟩) ?_ ?_
  rotate_left
  · intro w'
    go_simp
    with_reducible rfl
  rotate_left
  · simp only [Act.put, List.setIfInBounds_toArray, List.set_cons_zero, List.set_cons_succ]
    rfl
  refine one_ (i := 6) (N := some 19) #[true, true, true, true, true, true, true, false] rfl rfl (by kernel_rfl) (by decide) (fun K hK => ?_)
  refine goes_ Tryz.func104 (by kernel_rfl) rfl #[.string b, .int .u8 54] (by rfl) rfl rfl (by (try simp only [List.map_toArray, List.map_cons, List.map_nil]); first | done | rfl) ?_
  refine (with_calls b 54 wd hbs.out).mono ?_
  rintro e w5 ⟨rfl, hb⟩
  refine ⟨_, rfl, ?_⟩
  refine hK.out _ _ (HSd _ hb) (fun hHeld => ?_)
  have HI5 := Aside0.mk (HId.out.below hb)
  have HT5 := Aside0.mk (HTd.out.below hb)
  have HM5 := Aside0.mk (blk_below HMd.out hb)
  have HB5 := Aside0.mk (HBd.out.trans (hb.mono HBd.out.size))
  have HZ5 : Aside0 (w3.heap.size < w5.heap.size) := ⟨Nat.lt_of_lt_of_le HZd.out hb.size⟩
  clear hK K hb HSd
  refine norm_ (a' := ?_) ?_ ?_
  rotate_left
  · show Act.put _ (some 19) _ = _
    simp only [Act.put, List.setIfInBounds_toArray, List.set_cons_zero, List.set_cons_succ]
    rfl
  refine last_ (i := 7) (N := some 20) #[true, true, true, true, true, true, true, true] rfl rfl (by kernel_rfl) (by decide) (fun K hK => ?_)
  refine goes_ Tryz.func105 (by kernel_rfl) rfl #[.pointer (some ⟨B, 0, none⟩), .string (xorB 54 b)] (by rfl) rfl rfl (by (try simp only [List.map_toArray, List.map_cons, List.map_nil]); first | done | rfl) ?_
  refine (write_calls B st0 ⟨#[]⟩ (xorB 54 b) 0 w5 HI5.out HT5.out hxs.out (by decide)).mono ?_
  rintro e w6 ⟨rfl, hi6, hb6⟩
  refine ⟨_, rfl, ?_⟩
  refine hK.out _ _ ?_
  clear hK K
  refine norm_ (a' := ?_) ?_ ?_
  rotate_left
  · show Act.put _ (some 20) _ = _
    simp only [Act.put, List.setIfInBounds_toArray, List.set_cons_zero, List.set_cons_succ]
    rfl
  refine done_ (by kernel_rfl) ?_
  go_wp2_with fail
  go_ret
  refine ⟨w3.heap.size, rfl, HMW.out, B, HBB.out, by have := HBM.out; omega, ?_, ?_, HB5.out.trans (hb6.below HB5.out.size HBB.out)⟩
  · rw [HBK.out]; exact (hb6.block _ HZ5.out (by have := HBM.out; omega)).trans HM5.out
  · rw [HKD.out]; rw [Nat.zero_add, hx64.out] at hi6; exact hi6
end Go.Proofs.YtfijhbfdkcajjaaGreatDoor.Sh

/- The contracts of hmac's none, Write, Sum; of hmac.Sum, First. -/
namespace Go.Proofs.YtfijhbfdkcajjaaGreatDoor.Sh
open Go.RowKit Go.Proofs.YtfijhbfdkcajjaaGreatDoorW.PrintWords Go.Proofs.YtfijhbfdkcajjaaGreatDoorW.PrintLast Go.Proofs.YtfijhbfdkcajjaaGreatDoorW.PrintMore
set_option linter.unusedVariables false
set_option linter.unusedSimpArgs false
set_option maxRecDepth 100000 in
theorem macNone_calls (M B : Nat) (o : ByteArray) (w : World) (h : IsMac w M B o) : Calls Tryz.prog 106 #[.pointer (some ⟨M, 0, none⟩)] w fun e w' => e = .returned (.bool false) ∧ w' = w := by
  have c0 : w.cell? ⟨M, 0, none⟩ = some (.pointer (some ⟨B, 0, none⟩)) := (blk_cell h 0).trans rfl
  clear h
  go_enter Tryz.func106, Tryz.ntmps106
  go_wp2
  go_ret
  exact ⟨rfl, rfl⟩
set_option maxRecDepth 100000 in
theorem macWrite_calls (M B : Nat) (o : ByteArray) (s : St8) (rest t : ByteArray) (n : Nat) (w : World) (hM : IsMac w M B o) (hMB : M ≠ B) (h : IsSha w B s rest n) (hT : CTab w) (hn : n + t.size ≤ 4294967296) (hr : rest.size < 64) :
    Calls Tryz.prog 87 #[.pointer (some ⟨M, 0, none⟩), .string t] w fun e w' =>
      e = .returned (.int .i64 0) ∧ IsSha w' B (taken s rest t).1 (taken s rest t).2 ((n + t.size : Nat) : Int) ∧ But B w.heap.size w w' := by
  have H := Aside0.mk h
  have HM := Aside0.mk hM
  have HT := Aside0.mk hT
  have c0 : w.cell? ⟨M, 0, none⟩ = some (.pointer (some ⟨B, 0, none⟩)) := (blk_cell hM 0).trans rfl
  clear h hT hM
  go_enter Tryz.func87, Tryz.ntmps87
  go_wp2_with fail
  refine (macNone_calls M B o w HM.out).mono ?_
  rintro e w1 ⟨rfl, rfl⟩
  have d0 : decide ((4294967296 : Int) < (n : Int) + (t.size : Int)) = false := decide_eq_false (by omega)
  go_wp2_with fail
  refine (len_calls B s rest n _ H.out).mono ?_
  rintro e w1 ⟨rfl, rfl⟩
  go_wp2_with fail
  refine (write_calls B s rest t n _ H.out HT.out hn hr).mono ?_
  rintro e w2 ⟨rfl, hi, hb⟩
  go_wp2
  go_ret
  exact ⟨rfl, hi, hb⟩
set_option maxRecDepth 100000 in
theorem macSum_calls (M B : Nat) (o : ByteArray) (s : St8) (rest : ByteArray) (n : Nat) (w : World) (hM : IsMac w M B o) (h : IsSha w B s rest n) (hT : CTab w) (hn : n < 1152921504606846976) (hr : rest.size < 64) (ho : o.size ≤ 4294967296) :
    Calls Tryz.prog 88 #[.pointer (some ⟨M, 0, none⟩)] w fun e w' =>
      e = .returned (.tuple #[.string (shaSum (o ++ sumX s rest n)), .int .i64 0]) ∧ Below w.heap.size w w' := by
  have H := Aside0.mk h
  have HM := Aside0.mk hM
  have HT := Aside0.mk hT
  have hz := sumX_size s rest n
  have c0 : w.cell? ⟨M, 0, none⟩ = some (.pointer (some ⟨B, 0, none⟩)) := (blk_cell hM 0).trans rfl
  clear h hT hM
  go_enter Tryz.func88, Tryz.ntmps88
  go_wp2_with fail
  refine (macNone_calls M B o w HM.out).mono ?_
  rintro e w1 ⟨rfl, rfl⟩
  go_wp2_with fail
  refine (sum_calls B s rest n _ H.out HT.out hn hr).mono ?_
  rintro e w2 ⟨rfl, hb⟩
  obtain ⟨d, hd⟩ : ∃ d, sumX s rest n = d := ⟨_, rfl⟩
  rw [hd] at hz
  have HD := Aside0.mk hd
  rw [hd]
  clear hd
  have c1 : w2.cell? ⟨M, 1, none⟩ = some (.string o) := (blk_cell (HM.out.below hb) 1).trans rfl
  have HB := Aside0.mk hb
  clear hb
  go_wp2_with fail
  refine (shaSum_calls (o ++ d) w2 (HT.out.below HB.out) (by rw [ByteArray.size_append]; omega)).mono ?_
  rintro e w3 ⟨rfl, hb3⟩
  have HB3 := Aside0.mk (HB.out.trans (hb3.mono HB.out.size))
  clear hb3
  go_wp2
  go_ret2
  rw [HD.out]
  exact ⟨rfl, HB3.out⟩
/-- The mac of a text. -/
def macOf (key t : ByteArray) : ByteArray := shaSum (xorB 92 (blockOf key) ++ sumX (taken (keyed key).1 (keyed key).2 t).1 (taken (keyed key).1 (keyed key).2 t).2 (64 + t.size))
theorem macOf_size (key t : ByteArray) : (macOf key t).size = 32 := shaSum_size _
theorem keyed_rest (key : ByteArray) : (keyed key).2.size < 64 := taken_rest _ _ _ (by decide)
set_option maxRecDepth 100000 in
theorem mac_calls (key t : ByteArray) (w : World) (hT : CTab w) (hk : key.size < 140737488355328) (ht : t.size ≤ 4294967232) :
    Calls Tryz.prog 66 #[.string key, .string t] w fun e w' => e = .returned (.string (macOf key t)) ∧ Below w.heap.size w w' := by
  have HT := Aside0.mk hT
  have HMO : Aside0 (macOf key t = shaSum (xorB 92 (blockOf key) ++ sumX (taken (keyed key).1 (keyed key).2 t).1 (taken (keyed key).1 (keyed key).2 t).2 (64 + t.size))) := ⟨rfl⟩
  clear hT
  go_enter Tryz.func66, Tryz.ntmps66
  go_wp2_with fail
  refine (macNew_calls key w HT.out hk).mono ?_
  rintro e w1 ⟨M, rfl, hM, B, hB, hne, hm, hi, hb⟩
  have HM := Aside0.mk hM
  have HB := Aside0.mk hB
  have HN := Aside0.mk hne
  have HMm := Aside0.mk hm
  have HI := Aside0.mk hi
  have HBe := Aside0.mk hb
  have HT1 := Aside0.mk (HT.out.below hb)
  clear hM hB hne hm hi hb
  go_wp2_with fail
  refine (macWrite_calls M B _ _ _ t 64 w1 HMm.out HN.out HI.out HT1.out (by omega) (keyed_rest key)).mono ?_
  rintro e w2 ⟨rfl, hi2, hb2⟩
  have HM2 : Aside0 (IsMac w2 M B (xorB 92 (blockOf key))) := ⟨(hb2.block M (blk_lt HMm.out) HN.out).trans HMm.out⟩
  have HI2 := Aside0.mk hi2
  have HB2 := Aside0.mk (HBe.out.trans (hb2.below HBe.out.size HB.out))
  have HT2 := Aside0.mk (HT1.out.but hb2 (HI.out.ne HT1.out))
  clear hi2 hb2
  go_wp2_with fail
  refine (macSum_calls M B _ _ _ (64 + t.size) w2 HM2.out HI2.out HT2.out (by omega) (taken_rest _ _ _ (keyed_rest key)) (by rw [xorB_size, blockOf_size]; omega)).mono ?_
  rintro e w3 ⟨rfl, hb3⟩
  have HB3 := Aside0.mk (HB2.out.trans (hb3.mono HB2.out.size))
  clear hb3
  rw [← HMO.out]
  generalize hmm : macOf key t = z
  have HZ := Aside0.mk hmm
  clear hmm
  go_wp2
  go_ret
  rw [HZ.out]
  exact ⟨rfl, HB3.out⟩
set_option maxRecDepth 100000 in
theorem macFirst_calls (key t : ByteArray) (n : Nat) (hn : n ≤ 32) (w : World) (hT : CTab w) (hk : key.size < 140737488355328) (ht : t.size ≤ 4294967232) :
    Calls Tryz.prog 48 #[.string key, .string t, .int .i64 (n : Int)] w fun e w' => e = .returned (.string ((macOf key t).extract 0 n)) ∧ Below w.heap.size w w' := by
  have HT := Aside0.mk hT
  have hz := macOf_size key t
  clear hT
  go_enter Tryz.func48, Tryz.ntmps48
  go_wp2_with fail
  refine (mac_calls key t w HT.out hk ht).mono ?_
  rintro e w1 ⟨rfl, hb⟩
  obtain ⟨z, hzz⟩ : ∃ z, macOf key t = z := ⟨_, rfl⟩
  rw [hzz] at hz ⊢
  have HZ := Aside0.mk hzz
  have HB := Aside0.mk hb
  clear hzz hb
  go_wp2_with fail
  go_ret
  have e : (min (n : Int) 32).toNat = n := by omega
  rw [HZ.out]
  refine ⟨?_, HB.out⟩
  show Ending.returned (.string (z.extract 0 (min (n : Int) 32).toNat)) = _
  rw [e]
end Go.Proofs.YtfijhbfdkcajjaaGreatDoor.Sh

/- The contracts of u128.Of, Bytes. -/
namespace Go.Proofs.YtfijhbfdkcajjaaGreatDoor.Sh
open Go.RowKit Go.Proofs.YtfijhbfdkcajjaaGreatDoorW.PrintWords Go.Proofs.YtfijhbfdkcajjaaGreatDoorW.PrintLast Go.Proofs.YtfijhbfdkcajjaaGreatDoorW.PrintMore
set_option linter.unusedVariables false
set_option linter.unusedSimpArgs false
def byteAt (x k : Nat) : UInt8 := UInt8.ofNat (x / 2 ^ k)
def eightL (x : Nat) : List UInt8 := [byteAt x 56, byteAt x 48, byteAt x 40, byteAt x 32, byteAt x 24, byteAt x 16, byteAt x 8, byteAt x 0]
set_option maxRecDepth 100000 in
theorem of_calls (n : Int) (w : World) : Calls Tryz.prog 43 #[.int .u64 n] w fun e w' => e = .returned (.agg #[.int .u64 0, .int .u64 n]) ∧ Below w.heap.size w w' := by
  go_enter Tryz.func43, Tryz.ntmps43
  have hI : (Tryz.prog.info? 39).map (·.size) = some (#[Value.int .u64 0, .int .u64 n] : Array Value).size := by kernel_rfl
  go_wp2
  refine bodyPost_ret (results_cell_row rfl _ _ w.heap.size 39 #[.int .u64 0, .int .u64 n] (0, 0) _ rfl (blk_new w (.cells #[.int .u64 0, .int .u64 n] 39 (0, 0))) Tryz.underlying39 rfl hI) rfl ⟨rfl, (Below.refl _ _).alloc (Nat.le_refl _) _⟩
end Go.Proofs.YtfijhbfdkcajjaaGreatDoor.Sh

/- The contracts of tag's eight, PadSalt. -/
namespace Go.Proofs.YtfijhbfdkcajjaaGreatDoor.Sh
open Go.RowKit Go.Proofs.YtfijhbfdkcajjaaGreatDoorW.PrintWords Go.Proofs.YtfijhbfdkcajjaaGreatDoorW.PrintLast Go.Proofs.YtfijhbfdkcajjaaGreatDoorW.PrintMore
set_option linter.unusedVariables false
set_option linter.unusedSimpArgs false
def eightS (n : Nat) : ByteArray := (⟨(eightL 0 ++ eightL n).toArray⟩ : ByteArray).extract 8 16
def one1 (k : UInt8) : ByteArray := ⟨#[k]⟩
theorem conv_one (W : World) (k : UInt8) (b : Nat) (h : W.cell? ⟨b, 0, none⟩ = some (.int .u8 (k.toNat : Int))) : (convert 82 9 (.slice (some ⟨b, 0, none⟩) 1 1)).run Tryz.prog W = .ok (.string (one1 k)) W :=
  run_convert_bytes_back (P := Tryz.prog) W 82 9 5 ⟨b, 0, none⟩ 1 [k] Tryz.underlying82 Tryz.underlying5 Tryz.underlying9 (fun j hj => by
    obtain rfl : j = 0 := by simp at hj; omega
    rw [add_plain]; exact h)
/-- A pad's salt. -/
def padSaltS (seed : ByteArray) (n : Nat) : ByteArray := (macOf seed (one1 4 ++ eightS n)).extract 0 16
end Go.Proofs.YtfijhbfdkcajjaaGreatDoor.Sh

/- The contracts of tag's Pad, First. -/
namespace Go.Proofs.YtfijhbfdkcajjaaGreatDoor.Sh
open Go.RowKit Go.Proofs.YtfijhbfdkcajjaaGreatDoorW.PrintWords Go.Proofs.YtfijhbfdkcajjaaGreatDoorW.PrintLast Go.Proofs.YtfijhbfdkcajjaaGreatDoorW.PrintMore
set_option linter.unusedVariables false
set_option linter.unusedSimpArgs false
end Go.Proofs.YtfijhbfdkcajjaaGreatDoor.Sh

/- The contract of hmac.Number. -/
namespace Go.Proofs.YtfijhbfdkcajjaaGreatDoor.Sh
open Go.RowKit Go.Proofs.YtfijhbfdkcajjaaGreatDoorW.PrintWords Go.Proofs.YtfijhbfdkcajjaaGreatDoorW.PrintLast Go.Proofs.YtfijhbfdkcajjaaGreatDoorW.PrintMore
set_option linter.unusedVariables false
set_option linter.unusedSimpArgs false
/-- A mac's number. -/
def numL (l : List UInt8) : Nat := l.foldl (fun n b => n * 256 + b.toNat) 0
theorem numL_snoc (l : List UInt8) (b : UInt8) : numL (l ++ [b]) = numL l * 256 + b.toNat := by simp [numL]
theorem numL_lt : ∀ (k : Nat) (l : List UInt8), l.length = k → numL l < 256 ^ k := by
  intro k
  induction k with
  | zero => intro l hl; obtain rfl := List.eq_nil_of_length_eq_zero hl; decide
  | succ k ih =>
    intro l hl
    have hne : l ≠ [] := fun e => by rw [e] at hl; cases hl
    rw [← List.dropLast_concat_getLast hne, numL_snoc]
    have h1 := ih l.dropLast (by rw [List.length_dropLast]; omega)
    have h2 : (l.getLast hne).toNat < 256 := (l.getLast hne).toNat_lt
    rw [Nat.pow_succ]
    omega
def numOf (key t : ByteArray) : Nat := numL ((macOf key t).extract 0 8).data.toList
set_option maxRecDepth 100000 in
set_option maxHeartbeats 4000000 in
theorem macNumber_calls (key t : ByteArray) (w : World) (hT : CTab w) (hk : key.size < 140737488355328) (ht : t.size ≤ 4294967232) :
    Calls Tryz.prog 49 #[.string key, .string t] w fun e w' => e = .returned (.int .u64 (numOf key t : Int)) ∧ Below w.heap.size w w' := by
  have HT := Aside0.mk hT
  have hz : ((macOf key t).extract 0 8).size = 8 := by have := macOf_size key t; simp; omega
  clear hT
  go_enter Tryz.func49, Tryz.ntmps49
  go_wp2_with fail
  refine (macFirst_calls key t 8 (by decide) w HT.out hk ht).mono ?_
  rintro e w1 ⟨rfl, hb⟩
  have hno : Aside0 (numOf key t = numL ((macOf key t).extract 0 8).data.toList) := ⟨rfl⟩
  generalize (macOf key t).extract 0 8 = s at hz hno ⊢
  have hcv := run_bytes_of_string (P := Tryz.prog) w1 9 82 5 s Tryz.underlying9 Tryz.underlying82 Tryz.underlying5
  obtain ⟨l, hl⟩ : ∃ l, s.data.toList = l := ⟨_, rfl⟩
  have hll : l.length = 8 := by rw [← hl]; exact hz
  generalize hcp : grownCap w1 s.size 0 5 = cp at hcv
  rw [hz] at hcv
  obtain ⟨W0, hW0⟩ : ∃ W0, w1.drew.alloc (.cells (bytesRow s cp) 5 ((bytesRow s cp).size, (bytesRow s cp).size + 1)) = W0 := ⟨_, rfl⟩
  rw [hW0] at hcv
  have HC0 : Aside0 (∀ j, j < 8 → W0.cell? ⟨w1.heap.size, j, none⟩ = some (.int .u8 ((l.getD j 0).toNat : Int))) := ⟨fun j hj => by
    rw [← hW0]
    refine (World.cell?_alloc_mark w1.drew _ _ _ j).trans ?_
    have h1 : j < l.length := by omega
    have h2 : j < s.data.size := by rw [show s.data.size = s.size from rfl, hz]; exact hj
    unfold bytesRow
    rw [Array.getElem?_append_left (by simp; rw [hz]; exact hj)]
    rw [List.getD_eq_getElem?_getD, List.getElem?_eq_getElem h1, Option.getD_some, Array.getElem?_map]
    subst hl
    rw [Array.getElem_toList, Array.getElem?_eq_getElem h2]
    rfl⟩
  have HB0 : Aside0 (Below w.heap.size w W0) := ⟨by rw [← hW0]; exact (hb.drew).alloc hb.size _⟩
  have HL := Aside0.mk hl
  have HLL := Aside0.mk hll
  clear hcp hl hll hb hW0
  go_wp2_with fail
  go_loopw [5, 13] (fun v5 v13 wr => ∃ k : Nat, v13 = .int .i64 (k : Int) ∧ k ≤ 8 ∧ v5 = .int .u64 ((numL (l.take k) : Nat) : Int) ∧ wr = W0) (fun _ v13 _ => 8 - (intOf v13).toNat)
  case atStart => exact ⟨0, rfl, by omega, rfl, rfl⟩
  case round =>
    obtain ⟨k, rfl, hk8, rfl, rfl⟩ := hrel
    by_cases hlt : k < 8
    · have d0 : decide ((k : Int) < 8) = true := decide_eq_true (by omega)
      have i1 : (k : Int) < 8 := by omega
      have i2 : (0 : Int) ≤ (k : Int) := by omega
      have cx := HC0.out k hlt
      have hb8 : (l.getD k 0).toNat < 256 := (l.getD k 0).toNat_lt
      have hnl : numL (l.take k) < 72057594037927936 := Nat.lt_of_lt_of_le (numL_lt k (l.take k) (by rw [List.length_take, HLL.out]; omega)) (Nat.pow_le_pow_right (n := 256) (by decide) (show k ≤ 7 by omega))
      have hst : Aside0 (numL (l.take (k + 1)) = numL (l.take k) * 256 + (l.getD k 0).toNat) := ⟨by
        rw [List.take_succ_eq_append_getElem (by rw [HLL.out]; exact hlt), numL_snoc, List.getD_eq_getElem?_getD, List.getElem?_eq_getElem (by rw [HLL.out]; exact hlt), Option.getD_some]⟩
      generalize numL (l.take k) = y at hnl hst ⊢
      generalize l.getD k 0 = z at cx hb8 hst ⊢
      go_wp2_with fail
      go_roundw
      case rel =>
        refine ⟨k + 1, by go_num, by omega, ?_, trivial⟩
        have e1 : ((y : Int) * 256) = ((y * 256 : Nat) : Int) := by push_cast; rfl
        rw [hst.out, e1, bits_or_u64_nat (y * 256) z.toNat (by omega) (by omega)]
        congr 2
        rw [Nat.mul_comm y 256]
        exact (Nat.two_pow_add_eq_or_of_lt (i := 8) hb8 y).symm
      case measure => simp [intOf]; omega
    · have d0 : decide ((k : Int) < 8) = false := decide_eq_false (by omega)
      obtain rfl : k = 8 := by omega
      have hfull : Aside0 (numL (l.take 8) = numOf key t) := ⟨by rw [hno.out, HL.out, List.take_of_length_le (by rw [HLL.out]; exact Nat.le_refl _)]⟩
      generalize numL (l.take 8) = y at hfull ⊢
      go_wp2
      go_ret
      rw [← hfull.out]
      exact ⟨rfl, HB0.out⟩
end Go.Proofs.YtfijhbfdkcajjaaGreatDoor.Sh

/- The contracts of tag's Salt, First. -/
namespace Go.Proofs.YtfijhbfdkcajjaaGreatDoor.Sh
open Go.RowKit Go.Proofs.YtfijhbfdkcajjaaGreatDoorW.PrintWords Go.Proofs.YtfijhbfdkcajjaaGreatDoorW.PrintLast Go.Proofs.YtfijhbfdkcajjaaGreatDoorW.PrintMore
set_option linter.unusedVariables false
set_option linter.unusedSimpArgs false
set_option maxRecDepth 100000 in
theorem salt_calls (seed id : ByteArray) (w : World) (hT : CTab w) (hk : seed.size < 140737488355328) (hi : id.size ≤ 4294967200) :
    Calls Tryz.prog 17 #[.string seed, .string id] w fun e w' => e = .returned (.string ((macOf seed (one1 3 ++ id)).extract 0 16)) ∧ Below w.heap.size w w' := by
  have HT := Aside0.mk hT
  have hcv := conv_one (w.alloc (.cells #[.int .u8 3] 5)) 3 w.heap.size ((blk_cell (blk_new w (.cells #[.int .u8 3] 5 (0, 0))) 0).trans rfl)
  have hz : (one1 3).size = 1 := rfl
  generalize one1 3 = o at hcv hz ⊢
  clear hT
  go_enter Tryz.func17, Tryz.ntmps17
  go_wp2_with fail
  have hb : Below w.heap.size w (w.alloc (.cells #[.int .u8 3] 5)) := (Below.refl _ _).alloc (Nat.le_refl _) _
  refine (macFirst_calls seed (o ++ id) 16 (by decide) _ (HT.out.below hb) hk (by rw [ByteArray.size_append]; omega)).mono ?_
  rintro e w2 ⟨rfl, hb2⟩
  go_wp2
  go_ret
  exact ⟨rfl, hb.trans (hb2.mono hb.size)⟩
theorem numOf_lt (key t : ByteArray) : numOf key t < 18446744073709551616 := by
  unfold numOf
  have h : (((macOf key t).extract 0 8).data.toList).length = 8 := by
    have := macOf_size key t
    show ((macOf key t).extract 0 8).size = 8
    rw [ByteArray.size_extract]; omega
  exact Nat.lt_of_lt_of_le (numL_lt 8 _ h) (by decide)
set_option maxRecDepth 100000 in
set_option maxHeartbeats 4000000 in
theorem first_slot_calls (seed id : ByteArray) (h : Nat) (hh : h ≤ 63) (w : World) (hT : CTab w) (hk : seed.size < 140737488355328) (hi : id.size ≤ 4294967200) :
    Calls Tryz.prog 18 #[.string seed, .string id, .int .i64 (h : Int)] w fun e w' => e = .returned (.int .u64 ((numOf seed (one1 5 ++ id) % 2 ^ h : Nat) : Int)) ∧ Below w.heap.size w w' := by
  have HT : Aside0 (∀ W, Below w.heap.size w W → CTab W) := ⟨fun W hb => hT.below hb⟩
  have hcA := conv_one ((w.alloc (.cells #[.int .u8 5] 5)).drew) 5 w.heap.size ((blk_cell (blk_new w (.cells #[.int .u8 5] 5 (0, 0))) 0).trans rfl)
  have hBA : Aside0 (Below w.heap.size w ((w.alloc (.cells #[.int .u8 5] 5)).drew)) := ⟨((Below.refl _ _).alloc (Nat.le_refl _) _).drew⟩
  have hN := numOf_lt seed (one1 5 ++ id)
  have HF : Aside0 (∀ W, Below w.heap.size w W → Calls Tryz.prog 49 #[.string seed, .string (one1 5 ++ id)] W fun e w' => e = .returned (.int .u64 (numOf seed (one1 5 ++ id) : Int)) ∧ Below W.heap.size W w') :=
    ⟨fun W hb => macNumber_calls seed _ W (HT.out W hb) hk (by rw [ByteArray.size_append, show (one1 5).size = 1 from rfl]; omega)⟩
  have h1 : (one1 5).size = 1 := rfl
  obtain ⟨y, hy⟩ : ∃ y, numOf seed (one1 5 ++ id) = y := ⟨_, rfl⟩
  rw [hy] at HF hN
  have HY := Aside0.mk hy
  have hp : (2 : Nat) ^ h ≤ 9223372036854775808 := Nat.pow_le_pow_right (n := 2) (by decide) hh
  have hpos : 0 < (2 : Nat) ^ h := Nat.two_pow_pos h
  have hm : Go.bits .and .u64 (y : Int) ((2 : Int) ^ h - 1) = ((y % 2 ^ h : Nat) : Int) := by
    rw [bits_mask .u64 64 (by decide) (fun n h0 h1 => by rw [IntKind.wrap_u64]; omega) h (by omega) (y : Int) (Int.natCast_nonneg _) (by omega)]
    push_cast; rfl
  generalize one1 5 = o at HF hcA h1 HY
  clear hy hT
  go_enter Tryz.func18, Tryz.ntmps18
  go_wp2_with fail
  have hsh : (0 : Int) ≤ (h : Int) := by omega
  go_region_with (go_at_call 49; refine (HF.out _ hBA.out).mono ?_; rintro e w2 ⟨rfl, hb2⟩)
  have hpi : ((2 : Int) ^ h) = ((2 ^ h : Nat) : Int) := by push_cast; rfl
  have w1 : IntKind.u64.wrap ((2 : Int) ^ h) = (2 : Int) ^ h := by rw [IntKind.wrap_u64, hpi]; omega
  have w2' : IntKind.u64.wrap ((2 : Int) ^ h - 1) = (2 : Int) ^ h - 1 := by rw [IntKind.wrap_u64, hpi]; omega
  all_goals (go_wp2; go_ret; rw [HY.out]; refine ⟨?_, hBA.out.trans (hb2.mono hBA.out.size)⟩)
  all_goals (show Ending.returned (.int .u64 (Go.bits .and .u64 (y : Int) (IntKind.u64.wrap (IntKind.u64.wrap ((2 : Int) ^ h) - 1)))) = _; rw [w1, w2', hm])
end Go.Proofs.YtfijhbfdkcajjaaGreatDoor.Sh
