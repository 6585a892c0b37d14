/- Proved here: the pure statement of CoverRanges (the program's blocks are the reference's). -/
import Derived.Test.YtaeaacdjiijooaaDoorPrx12
import Derived.Test.YtaeaacdjiijooaaDoorPureBlocks
namespace Go.Proofs.YtaeaacdjiijooaaDoor.Pr
open Go.RowKit Go.Proofs.YtaeaacdjiijooaaDoorW.PrintWords Go.Proofs.YtaeaacdjiijooaaDoorW.PrintLast Go.Proofs.YtaeaacdjiijooaaDoorW.PrintMore

theorem rspan_is (k n p : Nat) (hn : n ≤ 63) (hp : (p + 1) * 2 ^ n ≤ 9223372036854775808) (hk : 65 ≤ k) : paymasterref20_Span.f k (n : Int) (p : Int) = some (((p * 2 ^ n : Nat) : Int), (((p + 1) * 2 ^ n : Nat) : Int)) := by
  obtain ⟨k, rfl⟩ : ∃ m, k = m + 1 := ⟨k - 1, by omega⟩
  have hpn := pow_nat n hn
  have h63 : (2 : Nat) ^ 63 = 9223372036854775808 := by decide
  unfold paymasterref20_Span.f
  rw [if_neg (by omega)]
  have ed : decide ((n : Int) > 63) = false := decide_eq_false (by omega)
  rw [ed]
  simp only [paymasterref20_Span.j0]
  rw [if_neg (by simp), two_is k n hn (by omega)]
  have e63 : paymasterref16_Two.f k 63 = some ((2 ^ 63 : Nat) : Int) := two_is k 63 (by omega) (by omega)
  rw [e63]
  simp only [Option.bind_some]
  rw [if_neg (by omega), h63]
  have et : Int.tdiv ((9223372036854775808 : Nat) : Int) ((2 ^ n : Nat) : Int) = ((9223372036854775808 / 2 ^ n : Nat) : Int) := rfl
  have hdiv : 9223372036854775808 / 2 ^ n ≤ 9223372036854775808 := Nat.div_le_self _ _
  have hlt : p < 9223372036854775808 / 2 ^ n := by
    rw [← Nat.succ_le_iff, Nat.le_div_iff_mul_le (by omega)]; exact hp
  have e1 : (p + 1) * 2 ^ n = p * 2 ^ n + 2 ^ n := Nat.succ_mul _ _
  rw [et, wrap_small (by omega), if_neg (by omega)]
  have e2 : (p : Int) * ((2 ^ n : Nat) : Int) = ((p * 2 ^ n : Nat) : Int) := by rw [Int.natCast_mul]
  rw [e2, wrap_small (by omega), ← Int.natCast_add, ← e1, wrap_small (by omega)]

theorem halves_is (n : Nat) : ∀ (k p a b : Nat), n ≤ 63 → (p + 1) * 2 ^ n ≤ 9223372036854775808 → 70 + 3 * n ≤ k → paymasterref20_halves.f k (n : Int) (p : Int) (a : Int) (b : Int) = some (H n p a b) := by
  induction n with
  | zero =>
    intro k p a b hn hp hk
    obtain ⟨k, rfl⟩ : ∃ m, k = m + 3 := ⟨k - 3, by omega⟩
    simp only [paymasterref20_halves.f]
    rw [rspan_is (k + 2) 0 p hn hp (by omega)]
    simp only [Option.bind_some, paymasterref20_halves.j0]
    by_cases c1 : (p + 1) * 2 ^ 0 ≤ a
    · rw [if_pos (by omega), if_pos trivial, H_out (.inl c1)]
    · rw [if_neg (by omega)]
      by_cases c2 : b ≤ p * 2 ^ 0
      · have e : decide (((p * 2 ^ 0 : Nat) : Int) ≥ (b : Int)) = true := decide_eq_true (by omega)
        rw [e, if_pos rfl, H_out (.inr c2)]
      · have e : decide (((p * 2 ^ 0 : Nat) : Int) ≥ (b : Int)) = false := decide_eq_false (by omega)
        have e2 : decide ((((p + 1) * 2 ^ 0 : Nat) : Int) ≤ (b : Int)) = true := decide_eq_true (by omega)
        rw [e, if_neg (by simp), if_pos (by omega), e2]
        simp only [paymasterref20_halves.j1]
        rw [if_pos trivial, H_whole (by omega) (by omega)]
  | succ n ih =>
    intro k p a b hn hp hk
    obtain ⟨k, rfl⟩ : ∃ m, k = m + 3 := ⟨k - 3, by omega⟩
    obtain ⟨e1, e2, e3, e4⟩ := pow_half n p
    have hpn := pow_nat (n + 1) hn
    have hpn2 := pow_nat n (by omega)
    have rec1 : paymasterref20_halves.f k (n : Int) ((2 * p : Nat) : Int) (a : Int) (b : Int) = some (H n (2 * p) a b) := ih k (2 * p) a b (by omega) (by omega) (by omega)
    have rec2 : paymasterref20_halves.f k (n : Int) ((2 * p + 1 : Nat) : Int) (a : Int) (b : Int) = some (H n (2 * p + 1) a b) := ih k (2 * p + 1) a b (by omega) (by omega) (by omega)
    have last : paymasterref20_halves.j1 (k + 1) (a : Int) (b : Int) false ((n + 1 : Nat) : Int) (p : Int) = some (H n (2 * p) a b ++ H n (2 * p + 1) a b) := by
      simp only [paymasterref20_halves.j1]
      rw [if_neg (by simp)]
      have w1 : wrap64 (((n + 1 : Nat) : Int) - 1) = (n : Int) := by unfold wrap64; omega
      have hpp : p < 9223372036854775808 := Nat.lt_of_succ_le (Nat.le_trans (Nat.le_mul_of_pos_right _ (by omega)) hp)
      have w2 : IntKind.u64.wrap (2 * (p : Int)) = ((2 * p : Nat) : Int) := by rw [wrap_u64]; omega
      have w3 : IntKind.u64.wrap (((2 * p : Nat) : Int) + 1) = ((2 * p + 1 : Nat) : Int) := by
        have : 2 * p + 1 < 18446744073709551616 := by omega
        rw [wrap_u64]; omega
      rw [w1, w2, w3, rec1, rec2]
      simp only [Option.bind_some]
      have l1 : (H n (2 * p) a b).length ≤ 126 := by have := H_len n (2 * p) a b; omega
      have l2 : (H n (2 * p + 1) a b).length ≤ 126 := by have := H_len n (2 * p + 1) a b; omega
      rw [if_pos (by omega)]
    simp only [paymasterref20_halves.f]
    rw [rspan_is (k + 2) (n + 1) p hn hp (by omega)]
    simp only [Option.bind_some, paymasterref20_halves.j0]
    by_cases c1 : (p + 1) * 2 ^ (n + 1) ≤ a
    · rw [if_pos (by omega), if_pos trivial, H_out (.inl c1)]
    · rw [if_neg (by omega)]
      by_cases c2 : b ≤ p * 2 ^ (n + 1)
      · have e : decide (((p * 2 ^ (n + 1) : Nat) : Int) ≥ (b : Int)) = true := decide_eq_true (by omega)
        rw [e, if_pos rfl, H_out (.inr c2)]
      · have e : decide (((p * 2 ^ (n + 1) : Nat) : Int) ≥ (b : Int)) = false := decide_eq_false (by omega)
        rw [e, if_neg (by simp)]
        by_cases c3 : a ≤ p * 2 ^ (n + 1)
        · rw [if_pos (by omega)]
          by_cases c4 : (p + 1) * 2 ^ (n + 1) ≤ b
          · have e2 : decide ((((p + 1) * 2 ^ (n + 1) : Nat) : Int) ≤ (b : Int)) = true := decide_eq_true (by omega)
            rw [e2]
            simp only [paymasterref20_halves.j1]
            rw [if_pos trivial, H_whole c3 c4]
          · have e2 : decide ((((p + 1) * 2 ^ (n + 1) : Nat) : Int) ≤ (b : Int)) = false := decide_eq_false (by omega)
            rw [e2, last, H_part (by omega) (by omega) (by omega)]
        · rw [if_neg (by omega), last, H_part (by omega) (by omega) (by omega)]

theorem rOf_is (k h a b : Nat) (hh : h ≤ 63) (hk : 300 ≤ k) : paymasterref20_Of.f k (h : Int) (a : Int) (b : Int) = some (if a < b ∧ b ≤ 2 ^ h then (H h 0 a b, 0) else ([], 200)) := by
  obtain ⟨k, rfl⟩ : ∃ m, k = m + 1 := ⟨k - 1, by omega⟩
  have hp := pow_nat h hh
  unfold paymasterref20_Of.f
  rw [if_neg (by omega)]
  have ed : decide ((h : Int) > 63) = false := decide_eq_false (by omega)
  rw [ed]
  simp only [paymasterref20_Of.j0]
  rw [if_neg (by simp), rmay_is k h a b hh (by omega)]
  simp only [Option.bind_some]
  by_cases c : a < b ∧ b ≤ 2 ^ h
  · rw [if_pos (by simp [c]), if_pos c]
    have e : paymasterref20_halves.f k (h : Int) 0 (a : Int) (b : Int) = some (H h 0 a b) := halves_is h k 0 a b hh (by omega) (by omega)
    rw [e]; rfl
  · rw [if_neg (by simp [c]), if_neg c]
theorem rOf_no (k : Nat) (h a b : Int) (hh : ¬ (0 ≤ h ∧ h ≤ 63)) (hk : 1 ≤ k) : paymasterref20_Of.f k h a b = some ([], 120) := by
  obtain ⟨k, rfl⟩ : ∃ m, k = m + 1 := ⟨k - 1, by omega⟩
  unfold paymasterref20_Of.f
  by_cases c : h < 0
  · rw [if_pos c]; simp only [paymasterref20_Of.j0]; rw [if_pos trivial]
  · have ed : decide (h > 63) = true := decide_eq_true (by omega)
    rw [if_neg c, ed]; simp only [paymasterref20_Of.j0]; rw [if_pos trivial]
theorem rOut_is (k h a b : Nat) (hh : h ≤ 63) (hk : 300 ≤ k) : paymasterref20_Out.f k (h : Int) (a : Int) (b : Int) = some (if a < b ∧ b ≤ 2 ^ h then (H h 0 0 a ++ H h 0 b (2 ^ h), 0) else ([], 200)) := by
  have hp := pow_nat h hh
  unfold paymasterref20_Out.f
  rw [rOf_is k h a b hh hk]
  simp only [Option.bind_some]
  by_cases c : a < b ∧ b ≤ 2 ^ h
  · rw [if_pos c]; simp only [if_true]
    have e0 : paymasterref20_Of.f k (h : Int) 0 (a : Int) = some (if 0 < a ∧ a ≤ 2 ^ h then (H h 0 0 a, 0) else ([], 200)) := rOf_is k h 0 a hh hk
    rw [e0, two_is k h hh (by omega)]
    simp only [Option.bind_some]
    rw [rOf_is k h b (2 ^ h) hh hk]
    simp only [Option.bind_some]
    have f1 : (if 0 < a ∧ a ≤ 2 ^ h then (H h 0 0 a, (0 : Int)) else ([], 200)).1 = H h 0 0 a := by
      by_cases c2 : 0 < a
      · rw [if_pos (by omega)]
      · rw [if_neg (by omega), H_out (.inr (by omega))]
    have f2 : (if b < 2 ^ h ∧ 2 ^ h ≤ 2 ^ h then (H h 0 b (2 ^ h), (0 : Int)) else ([], 200)).1 = H h 0 b (2 ^ h) := by
      by_cases c2 : b < 2 ^ h
      · rw [if_pos (by omega)]
      · rw [if_neg (by omega), H_out (.inl (by omega))]
    have l1 := H_len1000 (a := 0) (b := a) hh
    have l2 := H_len1000 (a := b) (b := 2 ^ h) hh
    rw [f1, f2, if_pos (by omega), if_pos c]
  · rw [if_neg c, if_neg c]; rfl
theorem rOut_no (k : Nat) (h a b : Int) (hh : ¬ (0 ≤ h ∧ h ≤ 63)) (hk : 1 ≤ k) : paymasterref20_Out.f k h a b = some ([], 120) := by
  unfold paymasterref20_Out.f
  rw [rOf_no k h a b hh hk]
  rfl

theorem same_from (l : List S33) (hl : l.length ≤ 1000000) : ∀ (d k i : Nat), l.length - i = d → i ≤ l.length → d < k → paymasterref20_Same.l0 k l l (i : Int) = some true := by
  intro d
  induction d with
  | zero =>
    intro k i h1 h2 hk
    obtain ⟨k, rfl⟩ : ∃ m, k = m + 1 := ⟨k - 1, by omega⟩
    simp only [paymasterref20_Same.l0]; rw [if_neg (by omega)]
  | succ d ih =>
    intro k i h1 h2 hk
    obtain ⟨k, rfl⟩ : ∃ m, k = m + 1 := ⟨k - 1, by omega⟩
    simp only [paymasterref20_Same.l0]
    rw [if_pos (by omega), if_pos (by omega), if_pos (by omega)]
    have e : wrap64 ((i : Int) + 1) = ((i + 1 : Nat) : Int) := by unfold wrap64; omega
    simp only [beq_self_eq_true, Bool.not_true, Bool.or_self, Bool.false_eq_true, if_false]
    rw [e]; exact ih k (i + 1) (by omega) (by omega) (by omega)
theorem same_refl (k : Nat) (l : List S33) (hl : l.length ≤ 100000) (hk : 100001 ≤ k) : paymasterref20_Same.f k l l = some true := by
  unfold paymasterref20_Same.f
  rw [if_pos rfl]
  exact same_from l (by omega) l.length k 0 (by omega) (by omega) (by omega)

theorem CoverRanges : paymasterlaw20_CoverRanges.Pure := by
  intro a0 a1 a2 _ h1 h2
  have b1 := u64_bd h1
  have b2 := u64_bd h2
  obtain ⟨a, rfl⟩ := Int.eq_ofNat_of_zero_le b1.1
  obtain ⟨b, rfl⟩ := Int.eq_ofNat_of_zero_le b2.1
  refine ⟨200000, ?_⟩
  unfold paymasterlaw20_CoverRanges.f
  by_cases c : 0 ≤ a0 ∧ a0 ≤ 63
  · obtain ⟨h, rfl⟩ := Int.eq_ofNat_of_zero_le c.1
    have hh : h ≤ 63 := by omega
    rw [Of_is _ h a b hh (by omega), rOf_is _ h a b hh (by omega), Out_is _ h a b hh (by omega), rOut_is _ h a b hh (by omega), may_is h a b hh, rmay_is _ h a b hh (by omega)]
    simp only [Option.bind_some]
    by_cases d : a < b ∧ b ≤ 2 ^ h
    · rw [if_pos d, if_pos d]
      have l0 := H_len1000 (a := a) (b := b) hh
      have l1 := H_len1000 (a := 0) (b := a) hh
      have l2 := H_len1000 (a := b) (b := 2 ^ h) hh
      rw [same_refl _ _ (by dsimp only; omega) (by omega), same_refl _ _ (by simp; omega) (by omega)]
      simp
    · rw [if_neg d, if_neg d]
      rw [same_refl _ _ (by simp) (by omega)]
      simp
  · rw [Of_no _ _ _ _ c, rOf_no _ _ _ _ c (by omega), Out_no _ _ _ _ c, rOut_no _ _ _ _ c (by omega), may_no _ _ _ c, rmay_no _ _ _ _ c]
    simp only [Option.bind_some]
    rw [same_refl _ _ (by simp) (by omega)]
    simp
end Go.Proofs.YtaeaacdjiijooaaDoor.Pr
