/- Proved: DrawPairs: the position and the span of any two draws, of any height, are those of the reference. Conditions: none. -/
import Derived.Test.YtaeaacdjiijooaaPDrawPairsx2
import Derived.Laws.BitsLemmas
namespace Go.Proofs.Ytaeaacdjiijooaa.Pure
open Go.RowKit Go.Proofs.Ytaeaacdjiijooaa.PDrawPairs Go.Proofs.YtaeaacdjiijooaaW.PrintWords Go.Proofs.YtaeaacdjiijooaaW.PrintLast Go.Proofs.YtaeaacdjiijooaaW.PrintMore

theorem wrap_u64 (n : Int) : IntKind.u64.wrap n = n % 18446744073709551616 := by simp [IntKind.wrap, IntKind.bits, IntKind.signed]

theorem two_from (d : Nat) : ∀ (k : Nat) (h i : Nat), h ≤ 63 → h = i + d → d < k → paymasterref16_Two.l0 k h ((2 : Int) ^ i) (i : Int) = some ((2 : Int) ^ h) := by
  induction d with
  | zero =>
    intro k h i hh he hk
    obtain ⟨k, rfl⟩ : ∃ m, k = m + 1 := ⟨k - 1, by omega⟩
    obtain rfl : h = i := by omega
    simp only [paymasterref16_Two.l0]; rw [if_neg (by omega)]
  | succ d ih =>
    intro k h i hh he hk
    obtain ⟨k, rfl⟩ : ∃ m, k = m + 1 := ⟨k - 1, by omega⟩
    simp only [paymasterref16_Two.l0]; rw [if_pos (by omega)]
    have e1 : IntKind.u64.wrap (2 * (2 : Int) ^ i) = (2 : Int) ^ (i + 1) := by
      rw [wrap_u64, Int.pow_succ, Int.mul_comm]
      apply Int.emod_eq_of_lt
      · have : (0 : Int) < 2 ^ i := Int.pow_pos (by omega); omega
      · have : (2 : Nat) ^ (i + 1) ≤ 2 ^ 63 := Nat.pow_le_pow_right (by omega) (by omega)
        have h2 : ((2 ^ (i + 1) : Nat) : Int) ≤ ((2 ^ 63 : Nat) : Int) := by exact_mod_cast this
        rw [Int.natCast_pow, Int.pow_succ] at h2
        have h3 : ((2 ^ 63 : Nat) : Int) = 9223372036854775808 := by decide
        rw [h3] at h2
        simp only [Int.cast_ofNat_Int] at h2
        omega
    have e2 : wrap64 ((i : Int) + 1) = ((i + 1 : Nat) : Int) := by unfold wrap64; omega
    rw [e1, e2]
    exact ih k h (i + 1) hh (by omega) (by omega)

theorem two_is (h : Nat) (hh : h ≤ 63) : paymasterref16_Two.f 65 h = some ((2 : Int) ^ h) := by
  have := two_from h 65 h 0 hh (by omega) (by omega)
  simpa [paymasterref16_Two.f] using this

theorem pow_bd (h : Nat) (hh : h ≤ 63) : (1 : Int) ≤ 2 ^ h ∧ (2 : Int) ^ h ≤ 9223372036854775808 := by
  have h1 : (1 : Nat) ≤ 2 ^ h := Nat.one_le_two_pow
  have h2 : (2 : Nat) ^ h ≤ 2 ^ 63 := Nat.pow_le_pow_right (by omega) hh
  have h3 : ((2 ^ h : Nat) : Int) = (2 : Int) ^ h := by simp
  have h4 : (2 : Nat) ^ 63 = 9223372036854775808 := by decide
  rw [h4] at h2
  omega

theorem shl_is (h : Nat) (hh : h ≤ 63) : shl .u64 1 (h : Int) = (2 : Int) ^ h := by
  unfold shl
  rw [wrap_u64]
  have hb := pow_bd h hh
  have : min ((h : Int).toNat) IntKind.u64.bits = h := by simp [IntKind.bits]; omega
  rw [this, Int.one_mul]
  exact Int.emod_eq_of_lt (by omega) (by omega)

theorem wraps_u64 (n : Int) (h₀ : 0 ≤ n) (h₁ : n < 2 ^ 64) : IntKind.u64.wrap n = n := by
  rw [wrap_u64]; have : (2 : Int) ^ 64 = 18446744073709551616 := by decide
  omega

theorem u64_bd {a : Int} (h : (Lit.int .u64 a).wf = true) : 0 ≤ a ∧ a < 18446744073709551616 := by
  simp [Lit.wf, IntKind.min, IntKind.max, IntKind.signed, IntKind.bits] at h
  omega

theorem pos_mine (a0 a1 : Int) (h1 : (Lit.int .u64 a1).wf = true) : draw_Position.f a0 a1 = paymasterref22_Position.f 65 a0 a1 := by
  have hb := u64_bd h1
  unfold draw_Position.f draw_high.f paymasterref22_Position.f
  by_cases c : a0 < 0
  · rw [if_neg (by omega), if_pos c]; rfl
  · by_cases c2 : a0 > 63
    · rw [if_pos (by omega), if_neg c, if_pos c2]; simp only [Option.bind_some]; rw [if_neg (by simp; omega)]
    · obtain ⟨h, rfl⟩ := Int.eq_ofNat_of_zero_le (show 0 ≤ a0 by omega)
      have hh : h ≤ 63 := by omega
      have hp := pow_bd h hh
      rw [if_pos (by omega), if_neg c, if_neg c2, two_is h hh]
      simp only [Option.bind_some]
      rw [if_pos (by simp; omega), if_pos (by omega), if_neg (by omega), shl_is h hh]
      have e : IntKind.u64.wrap ((2 : Int) ^ h - 1) = 2 ^ h - 1 := by rw [wrap_u64]; exact Int.emod_eq_of_lt (by omega) (by omega)
      rw [e, bits_mask .u64 64 (by decide) wraps_u64 h (by omega) a1 hb.1 (by have : (2 : Int) ^ 64 = 18446744073709551616 := by decide
                                                                              omega)]
      rw [Int.tmod_eq_emod_of_nonneg hb.1]

theorem pos_some (a0 a1 : Int) : ∃ r, draw_Position.f a0 a1 = some r := by
  unfold draw_Position.f draw_high.f
  by_cases c : a0 ≥ 0
  · rw [if_pos c]; simp only [Option.bind_some]; split
    · exact ⟨_, rfl⟩
    · exact ⟨_, rfl⟩
  · rw [if_neg c]; exact ⟨_, rfl⟩

theorem mn_is (a b : Int) : mn a b = min a b := by unfold mn; omega
theorem mx_is (a b : Int) : mx a b = max a b := by unfold mx; omega

theorem DrawPairs : paymasterlaw22_DrawPairs.Pure := by
  intro a0 a1 a2 _ h1 h2
  refine ⟨65, ?_⟩
  unfold paymasterlaw22_DrawPairs.f draw_Pair.f paymasterref22_Pair.f
  rw [← pos_mine a0 a1 h1, ← pos_mine a0 a2 h2]
  obtain ⟨⟨p, e⟩, hp⟩ := pos_some a0 a1
  obtain ⟨⟨q, f⟩, hq⟩ := pos_some a0 a2
  rw [hp, hq]
  simp only [Option.bind_some]
  by_cases c : e = 0
  · rw [if_pos c, if_pos c]
    by_cases d : p > q
    · rw [if_pos d]; simp only [Option.bind_some, if_true]
      have e1 : mn p q = q := by rw [mn_is]; omega
      have e2 : mx p q = p := by rw [mx_is]; omega
      rw [e1, e2]; simp
    · rw [if_neg d]; simp only [Option.bind_some, if_true]
      have e1 : mn p q = p := by rw [mn_is]; omega
      have e2 : mx p q = q := by rw [mx_is]; omega
      rw [e1, e2]; simp
  · rw [if_neg c, if_neg c]; simp

end Go.Proofs.Ytaeaacdjiijooaa.Pure
