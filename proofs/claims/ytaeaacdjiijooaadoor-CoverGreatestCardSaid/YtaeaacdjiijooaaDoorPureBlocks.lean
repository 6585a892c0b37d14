/- What the printed functions of layer 20 and of its reference come to, in terms of H (halving). -/
import Derived.Test.YtaeaacdjiijooaaDoorPrx9
import Derived.Test.YtaeaacdjiijooaaDoorPrx10
import Derived.Test.YtaeaacdjiijooaaDoorPrx11
import Derived.Test.YtaeaacdjiijooaaDoorCoverMath
import Derived.Laws.BitsLemmas
namespace Go.Proofs.YtaeaacdjiijooaaDoor.Pr
open Go.RowKit Go.Proofs.YtaeaacdjiijooaaDoorW.PrintWords Go.Proofs.YtaeaacdjiijooaaDoorW.PrintLast Go.Proofs.YtaeaacdjiijooaaDoorW.PrintMore

theorem wrap_u64 (n : Int) : IntKind.u64.wrap n = n % 18446744073709551616 := by simp [IntKind.wrap, IntKind.bits, IntKind.signed]
theorem u64_bd {a : Int} (h : (Lit.int .u64 a).wf = true) : 0 ≤ a ∧ a < 18446744073709551616 := by
  simp [Lit.wf, IntKind.min, IntKind.max, IntKind.signed, IntKind.bits] at h
  omega
theorem i64_bd {a : Int} (h : (Lit.int .i64 a).wf = true) : -9223372036854775808 ≤ a ∧ a < 9223372036854775808 := by
  simp [Lit.wf, IntKind.min, IntKind.max, IntKind.signed, IntKind.bits] at h
  omega
theorem pow_nat (h : Nat) (hh : h ≤ 63) : 1 ≤ 2 ^ h ∧ 2 ^ h ≤ 9223372036854775808 := by
  have h1 : (1 : Nat) ≤ 2 ^ h := Nat.one_le_two_pow
  have h2 : (2 : Nat) ^ h ≤ 2 ^ 63 := Nat.pow_le_pow_right (by omega) hh
  have h4 : (2 : Nat) ^ 63 = 9223372036854775808 := by decide
  omega
theorem pow_cast (h : Nat) : ((2 ^ h : Nat) : Int) = (2 : Int) ^ h := by simp
theorem wrap_small {n : Nat} (h : n < 18446744073709551616) : IntKind.u64.wrap (n : Int) = (n : Int) := by rw [wrap_u64]; omega

theorem shl_nat (x l : Nat) (hl : l ≤ 64) : shl .u64 (x : Int) (l : Int) = ((x * 2 ^ l % 18446744073709551616 : Nat) : Int) := by
  unfold shl
  rw [wrap_u64]
  have : min ((l : Int).toNat) IntKind.u64.bits = l := by simp [IntKind.bits]; omega
  rw [this]
  have e : ((x : Int) * 2 ^ l) = ((x * 2 ^ l : Nat) : Int) := by simp
  rw [e]; omega
theorem shr_nat (x l : Nat) (hl : l ≤ 64) : shr .u64 (x : Int) (l : Int) = ((x / 2 ^ l : Nat) : Int) := by
  unfold shr
  have : min ((l : Int).toNat) IntKind.u64.bits = l := by simp [IntKind.bits]; omega
  rw [this]
  simp
theorem mn_is (a b : Int) : mn a b = min a b := by unfold mn; omega

/-! the reference's powers of two -/
theorem two_from (d : Nat) : ∀ (k : Nat) (h i : Nat), h ≤ 63 → h = i + d → d < k → paymasterref16_Two.l0 k h ((2 ^ i : Nat) : Int) (i : Int) = some ((2 ^ h : Nat) : Int) := by
  induction d with
  | zero =>
    intro k h i hh he hk
    obtain ⟨k, rfl⟩ : ∃ m, k = m + 1 := ⟨k - 1, by omega⟩
    obtain rfl : h = i := by omega
    simp only [paymasterref16_Two.l0]; rw [if_neg (by omega)]
  | succ d ih =>
    intro k h i hh he hk
    obtain ⟨k, rfl⟩ : ∃ m, k = m + 1 := ⟨k - 1, by omega⟩
    simp only [paymasterref16_Two.l0]; rw [if_pos (by omega)]
    have hb := pow_nat (i + 1) (by omega)
    have e0 : (2 : Int) * ((2 ^ i : Nat) : Int) = ((2 ^ (i + 1) : Nat) : Int) := by rw [Nat.pow_succ]; omega
    have e1 : IntKind.u64.wrap (2 * ((2 ^ i : Nat) : Int)) = ((2 ^ (i + 1) : Nat) : Int) := by rw [e0]; exact wrap_small (by omega)
    have e2 : wrap64 ((i : Int) + 1) = ((i + 1 : Nat) : Int) := by unfold wrap64; omega
    rw [e1, e2]
    exact ih k h (i + 1) hh (by omega) (by omega)
theorem two_is (k h : Nat) (hh : h ≤ 63) (hk : 64 ≤ k) : paymasterref16_Two.f k (h : Int) = some ((2 ^ h : Nat) : Int) := two_from h k h 0 hh (by omega) (by omega)

/-! the program's blocks -/
theorem blocks_from (hb : Nat) (b : Nat) (hb0 : b ≤ 9223372036854775808) : ∀ (d k a : Nat) (acc : List S33), b - a = d → (G a b).length < k → acc.length + (G a b).length ≤ hb → hb ≤ 1000 → cover_blocks.l0 k (a : Int) (b : Int) acc = some (acc ++ G a b) := by
  intro d
  induction d using Nat.strongRecOn with
  | _ d ih =>
    intro k a acc hd hk hl hh
    obtain ⟨k, rfl⟩ : ∃ m, k = m + 1 := ⟨k - 1, by omega⟩
    simp only [cover_blocks.l0]
    by_cases c : a < b
    · rw [if_pos (by omega)]
      have hs := G_step c
      obtain ⟨g1, g2, g3⟩ := lv_spec a (b - a) (by omega) (by omega) (by omega)
      have hlv : lv a (b - a) ≤ 63 := by
        apply Nat.le_of_not_lt; intro h
        have : 2 ^ 64 ≤ 2 ^ lv a (b - a) := Nat.pow_le_pow_right (by omega) h
        omega
      have ht : bits_TrailingZeros64.f (a : Int) = some ((Lib.ctz 64 a : Nat) : Int) := by
        unfold bits_TrailingZeros64.f; rw [if_pos (by omega)]; rfl
      have hln : bits_Len64.f (IntKind.u64.wrap ((b : Int) - (a : Int))) = some ((Lib.bitLen (b - a) : Nat) : Int) := by
        have e : (b : Int) - (a : Int) = ((b - a : Nat) : Int) := by omega
        unfold bits_Len64.f; rw [e, wrap_small (by omega), if_pos (by omega)]; rfl
      rw [ht, hln]
      simp only [Option.bind_some]
      have hbl : 1 ≤ Lib.bitLen (b - a) ∧ Lib.bitLen (b - a) ≤ 64 := by
        have hx : b - a < 2 ^ 64 := by omega
        exact ⟨(Lib.bitLenAux_bounds 64 (b - a) hx (by omega)).1, Lib.bitLen_le _ 64 (by omega) hx⟩
      have e1 : wrap64 (((Lib.bitLen (b - a) : Nat) : Int) - 1) = ((Lib.bitLen (b - a) - 1 : Nat) : Int) := by unfold wrap64; omega
      have e2 : mn ((Lib.ctz 64 a : Nat) : Int) ((Lib.bitLen (b - a) - 1 : Nat) : Int) = ((lv a (b - a) : Nat) : Int) := by rw [mn_is]; unfold lv; omega
      rw [e1, e2, if_pos (by omega), if_pos (by rw [hs] at hl; simp at hl; omega)]
      have hp := pow_nat (lv a (b - a)) hlv
      have e3 : shl .u64 1 ((lv a (b - a) : Nat) : Int) = ((2 ^ lv a (b - a) : Nat) : Int) := by
        have := shl_nat 1 (lv a (b - a)) (by omega)
        rw [Nat.one_mul, Nat.mod_eq_of_lt (by omega)] at this
        exact this
      rw [e3, shr_nat a _ (by omega)]
      have e4 : IntKind.u64.wrap ((a : Int) + ((2 ^ lv a (b - a) : Nat) : Int)) = ((a + 2 ^ lv a (b - a) : Nat) : Int) := by
        rw [← Int.natCast_add]; exact wrap_small (by omega)
      rw [e4, ih (b - (a + 2 ^ lv a (b - a))) (by omega) k (a + 2 ^ lv a (b - a)) _ rfl (by rw [hs] at hk; simp at hk; omega) (by rw [hs] at hl; simp at hl ⊢; omega) hh, hs]
      simp
    · rw [if_neg (by omega), G_nil (by omega), List.append_nil]

theorem G_H {h a b : Nat} (hh : h ≤ 63) (hb : b ≤ 2 ^ h) : G a b = H h 0 a b := by
  have hp := pow_nat h hh
  rw [H_eq h 0 a b (by omega) (by omega)]
  congr 1 <;> omega
theorem H_len1000 {h a b : Nat} (hh : h ≤ 63) : (H h 0 a b).length ≤ 126 := by have := H_len h 0 a b; omega
theorem blocks_is (k : Nat) {h a b : Nat} (hh : h ≤ 63) (hb : b ≤ 2 ^ h) (hk : 200 ≤ k) : cover_blocks.f k (a : Int) (b : Int) = some (H h 0 a b) := by
  have hp := pow_nat h hh
  have hl := H_len1000 (a := a) (b := b) hh
  have := blocks_from 1000 b (by omega) (b - a) k a [] rfl (by rw [G_H hh hb]; omega) (by rw [G_H hh hb]; simp; omega) (by omega)
  rw [G_H hh hb] at this
  exact this

theorem high_is (a0 : Int) : cover_high.f a0 = some (decide (0 ≤ a0 ∧ a0 ≤ 63)) := by
  unfold cover_high.f
  by_cases c : a0 ≥ 0
  · rw [if_pos c]; congr 1; simp; omega
  · rw [if_neg c]; congr 1; simp; omega
theorem shl_one (h : Nat) (hh : h ≤ 63) : shl .u64 1 (h : Int) = ((2 ^ h : Nat) : Int) := by
  have hp := pow_nat h hh
  have := shl_nat 1 h (by omega)
  rw [Nat.one_mul, Nat.mod_eq_of_lt (by omega)] at this
  exact this
/-- Of what may be a range. -/
theorem may_is (h a b : Nat) (hh : h ≤ 63) : cover_May.f (h : Int) (a : Int) (b : Int) = some (decide (a < b ∧ b ≤ 2 ^ h)) := by
  unfold cover_May.f
  rw [high_is]
  simp only [Option.bind_some]
  rw [if_pos (by simp; omega)]
  by_cases c : a < b
  · rw [if_pos (by omega), if_pos (by omega), shl_one h hh]; congr 1; simp only [Int.ofNat_le]; simp [c]
  · rw [if_neg (by omega)]; congr 1; simp [c]
theorem may_no (h : Int) (a b : Int) (hh : ¬ (0 ≤ h ∧ h ≤ 63)) : cover_May.f h a b = some false := by
  unfold cover_May.f
  rw [high_is]
  simp only [Option.bind_some]
  rw [if_neg (by simp; omega)]
theorem rmay_is (k h a b : Nat) (hh : h ≤ 63) (hk : 64 ≤ k) : paymasterref20_May.f k (h : Int) (a : Int) (b : Int) = some (decide (a < b ∧ b ≤ 2 ^ h)) := by
  unfold paymasterref20_May.f
  rw [if_pos (by omega), if_pos (by omega)]
  by_cases c : a < b
  · rw [if_pos (by omega), two_is k h hh hk]; simp only [Option.bind_some]; congr 1; simp only [Int.ofNat_le]; simp [c]
  · rw [if_neg (by omega)]; congr 1; simp [c]
theorem rmay_no (k : Nat) (h : Int) (a b : Int) (hh : ¬ (0 ≤ h ∧ h ≤ 63)) : paymasterref20_May.f k h a b = some false := by
  unfold paymasterref20_May.f
  by_cases c : h ≥ 0
  · rw [if_pos c, if_neg (by omega)]
  · rw [if_neg c]

theorem Of_is (k h a b : Nat) (hh : h ≤ 63) (hk : 200 ≤ k) : cover_Of.f k (h : Int) (a : Int) (b : Int) = some (if a < b ∧ b ≤ 2 ^ h then (H h 0 a b, 0) else ([], 200)) := by
  unfold cover_Of.f cover_asked.f
  rw [high_is, may_is h a b hh]
  simp only [Option.bind_some]
  rw [if_pos (by simp; omega)]
  by_cases c : a < b ∧ b ≤ 2 ^ h
  · rw [if_pos (by simp [c]), if_pos c]; simp only [Option.bind_some, if_true]; rw [blocks_is k hh c.2 hk]; rfl
  · rw [if_neg (by simp [c]), if_neg c]; rfl
theorem Of_no (k : Nat) (h a b : Int) (hh : ¬ (0 ≤ h ∧ h ≤ 63)) : cover_Of.f k h a b = some ([], 120) := by
  unfold cover_Of.f cover_asked.f
  rw [high_is]
  simp only [Option.bind_some]
  rw [if_neg (by simp; omega)]
  rfl
theorem Out_is (k h a b : Nat) (hh : h ≤ 63) (hk : 200 ≤ k) : cover_Out.f k (h : Int) (a : Int) (b : Int) = some (if a < b ∧ b ≤ 2 ^ h then (H h 0 0 a ++ H h 0 b (2 ^ h), 0) else ([], 200)) := by
  unfold cover_Out.f cover_asked.f
  rw [high_is, may_is h a b hh]
  simp only [Option.bind_some]
  rw [if_pos (by simp; omega)]
  by_cases c : a < b ∧ b ≤ 2 ^ h
  · rw [if_pos (by simp [c]), if_pos c]; simp only [Option.bind_some, if_true]
    have e0 : cover_blocks.f k 0 (a : Int) = some (H h 0 0 a) := blocks_is k (a := 0) hh (by omega) hk
    rw [e0]; simp only [Option.bind_some]
    rw [if_pos (by omega), shl_one h hh, blocks_is k hh (Nat.le_refl _) hk]; simp only [Option.bind_some]
    have l1 := H_len1000 (a := 0) (b := a) hh
    have l2 := H_len1000 (a := b) (b := 2 ^ h) hh
    rw [if_pos (by omega)]
  · rw [if_neg (by simp [c]), if_neg c]; rfl
theorem Out_no (k : Nat) (h a b : Int) (hh : ¬ (0 ≤ h ∧ h ≤ 63)) : cover_Out.f k h a b = some ([], 120) := by
  unfold cover_Out.f cover_asked.f
  rw [high_is]
  simp only [Option.bind_some]
  rw [if_neg (by simp; omega)]
  rfl
end Go.Proofs.YtaeaacdjiijooaaDoor.Pr
