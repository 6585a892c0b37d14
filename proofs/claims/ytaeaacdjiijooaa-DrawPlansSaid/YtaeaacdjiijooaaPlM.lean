import Derived.Test.YtaeaacdjiijooaaPlL
import Derived.Laws.BitsLemmas
namespace Go.Proofs.Ytaeaacdjiijooaa.Co
open Go.Conc Go.RowKit Go.Proofs.YtaeaacdjiijooaaW.PrintWords Go.Proofs.YtaeaacdjiijooaaW.PrintLast Go.Proofs.YtaeaacdjiijooaaW.PrintMore
open Go.Proofs.Ytaeaacdjiijooaa.Dp
set_option linter.unusedVariables false
set_option linter.unusedSimpArgs false
theorem wrap_u64 (n : Int) : IntKind.u64.wrap n = n % 18446744073709551616 := by simp [IntKind.wrap, IntKind.bits, IntKind.signed]
theorem two_from (d : Nat) : ∀ (k : Nat) (h i : Nat), h ≤ 63 → h = i + d → d < k → paymasterref16_Two.l0 k h ((2 : Int) ^ i) (i : Int) = some ((2 : Int) ^ h) := by
  induction d with
  | zero =>
    intro k h i hh he hk
    obtain ⟨k, rfl⟩ : ∃ m, k = m + 1 := ⟨k - 1, by omega⟩
    obtain rfl : h = i := by omega
    simp only [paymasterref16_Two.l0]; rw [if_neg (by omega)]
  | succ d ih =>
    intro k h i hh he hk
    obtain ⟨k, rfl⟩ : ∃ m, k = m + 1 := ⟨k - 1, by omega⟩
    simp only [paymasterref16_Two.l0]; rw [if_pos (by omega)]
    have e1 : IntKind.u64.wrap (2 * (2 : Int) ^ i) = (2 : Int) ^ (i + 1) := by
      rw [wrap_u64, Int.pow_succ, Int.mul_comm]
      apply Int.emod_eq_of_lt
      · have : (0 : Int) < 2 ^ i := Int.pow_pos (by omega); omega
      · have : (2 : Nat) ^ (i + 1) ≤ 2 ^ 63 := Nat.pow_le_pow_right (by omega) (by omega)
        have h2 : ((2 ^ (i + 1) : Nat) : Int) ≤ ((2 ^ 63 : Nat) : Int) := by exact_mod_cast this
        rw [Int.natCast_pow, Int.pow_succ] at h2
        have h3 : ((2 ^ 63 : Nat) : Int) = 9223372036854775808 := by decide
        rw [h3] at h2
        simp only [Int.cast_ofNat_Int] at h2
        omega
    have e2 : wrap64 ((i : Int) + 1) = ((i + 1 : Nat) : Int) := by unfold wrap64; omega
    rw [e1, e2]
    exact ih k h (i + 1) hh (by omega) (by omega)
theorem two_is (k h : Nat) (hh : h ≤ 63) (hk : 65 ≤ k) : paymasterref16_Two.f k h = some ((2 : Int) ^ h) := by
  have := two_from h k h 0 hh (by omega) (by omega)
  simpa [paymasterref16_Two.f] using this
theorem pow_bd (h : Nat) (hh : h ≤ 63) : (1 : Int) ≤ 2 ^ h ∧ (2 : Int) ^ h ≤ 9223372036854775808 := by
  have h1 : (1 : Nat) ≤ 2 ^ h := Nat.one_le_two_pow
  have h2 : (2 : Nat) ^ h ≤ 2 ^ 63 := Nat.pow_le_pow_right (by omega) hh
  have h3 : ((2 ^ h : Nat) : Int) = (2 : Int) ^ h := by simp
  have h4 : (2 : Nat) ^ 63 = 9223372036854775808 := by decide
  rw [h4] at h2
  omega
theorem wraps_u64 (n : Int) (h₀ : 0 ≤ n) (h₁ : n < 2 ^ 64) : IntKind.u64.wrap n = n := by
  rw [wrap_u64]; have : (2 : Int) ^ 64 = 18446744073709551616 := by decide
  omega
theorem u64_bd {a : Int} (h : (Lit.int .u64 a).wf = true) : 0 ≤ a ∧ a < 18446744073709551616 := by
  simp [Lit.wf, IntKind.min, IntKind.max, IntKind.signed, IntKind.bits] at h
  omega
theorem posV_is (h : Nat) (hh : h ≤ 63) (d : Int) (hd : 0 ≤ d ∧ d < 18446744073709551616) : posV h d = d % 2 ^ h := by
  have hp := pow_bd h hh
  unfold posV
  have e0 : IntKind.u64.wrap (2 ^ ((h : Int)).toNat) = (2 : Int) ^ h := by rw [wrap_u64, Int.toNat_natCast]; exact Int.emod_eq_of_lt (by omega) (by omega)
  have e : IntKind.u64.wrap ((2 : Int) ^ h - 1) = 2 ^ h - 1 := by rw [wrap_u64]; exact Int.emod_eq_of_lt (by omega) (by omega)
  rw [e0, e, bits_mask .u64 64 (by decide) wraps_u64 h (by omega) d hd.1 (by have : (2 : Int) ^ 64 = 18446744073709551616 := by decide
                                                                             omega)]
theorem refPos_is (k : Nat) (hk : 65 ≤ k) (h : Int) (h0 : 0 ≤ h) (h1 : h ≤ 63) (d : Int) (hd : 0 ≤ d ∧ d < 18446744073709551616) : paymasterref22_Position.f k h d = some (posV h d, 0) := by
  obtain ⟨h, rfl⟩ := Int.eq_ofNat_of_zero_le h0
  have hh : h ≤ 63 := by omega
  have hp := pow_bd h hh
  unfold paymasterref22_Position.f
  rw [if_neg (by omega), if_neg (by omega), two_is k h hh hk]
  simp only [Option.bind_some]
  rw [if_neg (by omega), posV_is h hh d hd, Int.tmod_eq_emod_of_nonneg hd.1]
theorem refPair_is (k : Nat) (hk : 65 ≤ k) (h : Int) (h0 : 0 ≤ h) (h1 : h ≤ 63) (a b : Int) (ha : 0 ≤ a ∧ a < 18446744073709551616) (hb : 0 ≤ b ∧ b < 18446744073709551616) : paymasterref22_Pair.f k h a b = some (loV h a b, hiV h a b, 0) := by
  unfold paymasterref22_Pair.f
  rw [refPos_is k hk h h0 h1 a ha, refPos_is k hk h h0 h1 b hb]
  simp only [Option.bind_some, if_true]
  unfold loV hiV
  by_cases c : posV h a > posV h b
  · rw [if_pos c, if_pos c, if_neg (by omega)]
  · rw [if_neg c]
    by_cases c2 : posV h a < posV h b
    · rw [if_neg (by omega), if_pos c2]
    · have e : posV h a = posV h b := by omega
      rw [if_neg (by omega), if_neg c2, e]
theorem rd_getD (l : List Int) (j : Nat) : rd l (j : Int) = l.getD j 0 := by simp [rd]
theorem refPlan_l0 (h : Int) (h0 : 0 ≤ h) (h1 : h ≤ 63) (l : List Int) (hl : l.length ≤ 2048) (hw : ∀ x ∈ l, 0 ≤ x ∧ x < 18446744073709551616) : ∀ (m j k : Nat) (acc : List S29), 2 * (j + m) ≤ l.length → l.length < 2 * (j + m) + 2 → m + 66 ≤ k → acc.length + m ≤ 4096 →
    paymasterref22_Plan.l0 k h l acc ((2 * j : Nat) : Int) = some (acc ++ (pairsP l j m).map (mkS h), 0) := by
  have get : ∀ i, i < l.length → 0 ≤ l.getD i 0 ∧ l.getD i 0 < 18446744073709551616 := fun i hi => by
    rw [List.getD_eq_getElem?_getD, List.getElem?_eq_getElem hi]
    exact hw _ (List.getElem_mem hi)
  intro m
  induction m with
  | zero =>
    intro j k acc ha hb hk _
    obtain ⟨k, rfl⟩ : ∃ m, k = m + 1 := ⟨k - 1, by omega⟩
    simp only [paymasterref22_Plan.l0]
    have e : wrap64 (((2 * j : Nat) : Int) + 1) = ((2 * j + 1 : Nat) : Int) := by unfold wrap64; omega
    rw [e, if_neg (by omega)]
    simp [pairsP]
  | succ m ih =>
    intro j k acc ha hb hk hacc
    obtain ⟨k, rfl⟩ : ∃ m, k = m + 1 := ⟨k - 1, by omega⟩
    simp only [paymasterref22_Plan.l0]
    have e : wrap64 (((2 * j : Nat) : Int) + 1) = ((2 * j + 1 : Nat) : Int) := by unfold wrap64; omega
    have e2 : wrap64 (((2 * j : Nat) : Int) + 2) = ((2 * (j + 1) : Nat) : Int) := by unfold wrap64; omega
    rw [e, e2, if_pos (by omega), if_pos (by omega), if_pos (by omega), if_pos (by omega), rd_getD, rd_getD, refPair_is k (by omega) h h0 h1 _ _ (get _ (by omega)) (get _ (by omega))]
    simp only [Option.bind_some]
    rw [if_pos (by omega), ih (j + 1) k _ (by omega) (by omega) (by omega) (by simp; omega)]
    simp [pairsP, mkS]
theorem refPlan_is (h : Int) (l : List Int) (hw : ∀ x ∈ l, 0 ≤ x ∧ x < 18446744073709551616) (k : Nat) (hk : 5000 ≤ k) : paymasterref22_Plan.f k h l = some (planR h l) := by
  obtain ⟨k, rfl⟩ : ∃ m, k = m + 1 := ⟨k - 1, by omega⟩
  unfold paymasterref22_Plan.f planR
  by_cases c : h < 0
  · rw [if_pos c, if_neg (by omega)]
    simp [paymasterref22_Plan.j0]
  · rw [if_neg c]
    by_cases c2 : h > 63
    · rw [if_neg (by omega)]
      simp [paymasterref22_Plan.j0, c2]
    · rw [if_pos (by omega)]
      have e : decide (h > 63) = false := decide_eq_false c2
      rw [e]
      simp only [paymasterref22_Plan.j0, Bool.false_eq_true, if_false]
      by_cases c3 : l.length ≤ 2048
      · rw [if_neg (by omega), if_pos c3]
        have := refPlan_l0 h (by omega) (by omega) l c3 hw (l.length / 2) 0 k [] (by omega) (by omega) (by omega) (by simp; omega)
        simpa using this
      · rw [if_pos (by omega), if_neg c3]
theorem same_l0 (xs : List S29) (hx : xs.length ≤ 4096) : ∀ (d i k : Nat), xs.length = i + d → d < k → paymasterref22_Same.l0 k xs xs (i : Int) = some true := by
  intro d
  induction d with
  | zero =>
    intro i k h hk
    obtain ⟨k, rfl⟩ : ∃ m, k = m + 1 := ⟨k - 1, by omega⟩
    simp only [paymasterref22_Same.l0]
    rw [if_neg (by omega)]
  | succ d ih =>
    intro i k h hk
    obtain ⟨k, rfl⟩ : ∃ m, k = m + 1 := ⟨k - 1, by omega⟩
    simp only [paymasterref22_Same.l0]
    have e : wrap64 ((i : Int) + 1) = ((i + 1 : Nat) : Int) := by unfold wrap64; omega
    rw [if_pos (by omega), if_pos (by omega), if_pos (by omega), if_neg (by simp), e]
    exact ih (i + 1) k (by omega) (by omega)
theorem same_is (xs : List S29) (hx : xs.length ≤ 4096) (k : Nat) (hk : 4097 ≤ k) : paymasterref22_Same.f k xs xs = some true := by
  unfold paymasterref22_Same.f
  rw [if_pos rfl]
  exact same_l0 xs hx xs.length 0 k (by omega) (by omega)
theorem loop_is (l : List Int) (xs : List S29) (hx : xs.length ≤ 4096) (hl : l.length ≤ 3000) (e : Int) : ∀ (d i k : Nat), l.length = i + d → d + 4098 ≤ k → paymasterlaw22_DrawPlans.l0 k l l xs e xs e (i : Int) = some true := by
  intro d
  induction d with
  | zero =>
    intro i k h hk
    obtain ⟨k, rfl⟩ : ∃ m, k = m + 1 := ⟨k - 1, by omega⟩
    simp only [paymasterlaw22_DrawPlans.l0]
    rw [if_neg (by omega), same_is xs hx k (by omega)]
    simp
  | succ d ih =>
    intro i k h hk
    obtain ⟨k, rfl⟩ : ∃ m, k = m + 1 := ⟨k - 1, by omega⟩
    simp only [paymasterlaw22_DrawPlans.l0]
    have e : wrap64 ((i : Int) + 1) = ((i + 1 : Nat) : Int) := by unfold wrap64; omega
    rw [if_pos (by omega), if_pos (by omega), if_pos (by omega), e]
    exact ih (i + 1) k (by omega) (by omega)
theorem planR_len (h : Int) (l : List Int) (hl : l.length ≤ 3000) : (planR h l).1.length ≤ 4096 := by
  unfold planR
  by_cases c : 0 ≤ h ∧ h ≤ 63
  · rw [if_pos c]
    by_cases c2 : l.length ≤ 2048
    · rw [if_pos c2]
      simp [pairsP_length]
      omega
    · rw [if_neg c2]; simp
  · rw [if_neg c]; simp
theorem plans_pure : PlansPure := by
  intro h l hl hw _
  obtain ⟨k, hk⟩ : ∃ k, 8000 ≤ k := ⟨8000, Nat.le_refl _⟩
  refine ⟨k, ?_⟩
  rw [refPlan_is h l (fun x hx => u64_bd (hw x hx)) k (by omega)]
  exact loop_is l _ (planR_len h l hl) hl _ l.length 0 k (by omega) (by omega)
end Go.Proofs.Ytaeaacdjiijooaa.Co
