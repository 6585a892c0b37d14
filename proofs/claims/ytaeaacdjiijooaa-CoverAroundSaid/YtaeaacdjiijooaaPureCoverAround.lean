/- Proved here: the pure statement of CoverAround (what is around positions is the reference's). Conditions: none. -/
import Derived.Test.YtaeaacdjiijooaaPrx8
import Derived.Laws.BitsLemmas
namespace Go.Proofs.Ytaeaacdjiijooaa.Pr
open Go.RowKit Go.Proofs.YtaeaacdjiijooaaW.PrintWords Go.Proofs.YtaeaacdjiijooaaW.PrintLast Go.Proofs.YtaeaacdjiijooaaW.PrintMore
set_option linter.unusedVariables false

theorem wrap_u64 (n : Int) : IntKind.u64.wrap n = n % 18446744073709551616 := by simp [IntKind.wrap, IntKind.bits, IntKind.signed]
theorem u64_bd {a : Int} (h : (Lit.int .u64 a).wf = true) : 0 ≤ a ∧ a < 18446744073709551616 := by
  simp [Lit.wf, IntKind.min, IntKind.max, IntKind.signed, IntKind.bits] at h
  omega
theorem pow_nat (h : Nat) (hh : h ≤ 63) : 1 ≤ 2 ^ h ∧ 2 ^ h ≤ 9223372036854775808 := by
  have h1 : (1 : Nat) ≤ 2 ^ h := Nat.one_le_two_pow
  have h2 : (2 : Nat) ^ h ≤ 2 ^ 63 := Nat.pow_le_pow_right (by omega) hh
  have h4 : (2 : Nat) ^ 63 = 9223372036854775808 := by decide
  omega
theorem pow_cast (h : Nat) : ((2 ^ h : Nat) : Int) = (2 : Int) ^ h := by simp
theorem wrap_small {n : Nat} (h : n < 18446744073709551616) : IntKind.u64.wrap (n : Int) = (n : Int) := by rw [wrap_u64]; omega
theorem pow_half (n p : Nat) : p * 2 ^ (n + 1) = 2 * p * 2 ^ n ∧ (p + 1) * 2 ^ (n + 1) = (2 * p + 1) * 2 ^ n + 2 ^ n ∧ (2 * p + 1) * 2 ^ n = 2 * p * 2 ^ n + 2 ^ n ∧ (2 * p + 1 + 1) * 2 ^ n = (2 * p + 1) * 2 ^ n + 2 ^ n := by
  refine ⟨by rw [Nat.pow_succ, Nat.mul_comm 2 p, Nat.mul_assoc, Nat.mul_comm (2 ^ n) 2], ?_, Nat.succ_mul _ _, Nat.succ_mul _ _⟩
  rw [Nat.pow_succ, ← Nat.succ_mul, Nat.mul_comm (2 ^ n) 2, ← Nat.mul_assoc]
  congr 1; omega
/-! the reference's powers of two -/
theorem two_from (d : Nat) : ∀ (k : Nat) (h i : Nat), h ≤ 63 → h = i + d → d < k → paymasterref16_Two.l0 k h ((2 ^ i : Nat) : Int) (i : Int) = some ((2 ^ h : Nat) : Int) := by
  induction d with
  | zero =>
    intro k h i hh he hk
    obtain ⟨k, rfl⟩ : ∃ m, k = m + 1 := ⟨k - 1, by omega⟩
    obtain rfl : h = i := by omega
    simp only [paymasterref16_Two.l0]; rw [if_neg (by omega)]
  | succ d ih =>
    intro k h i hh he hk
    obtain ⟨k, rfl⟩ : ∃ m, k = m + 1 := ⟨k - 1, by omega⟩
    simp only [paymasterref16_Two.l0]; rw [if_pos (by omega)]
    have hb := pow_nat (i + 1) (by omega)
    have e0 : (2 : Int) * ((2 ^ i : Nat) : Int) = ((2 ^ (i + 1) : Nat) : Int) := by rw [Nat.pow_succ]; omega
    have e1 : IntKind.u64.wrap (2 * ((2 ^ i : Nat) : Int)) = ((2 ^ (i + 1) : Nat) : Int) := by rw [e0]; exact wrap_small (by omega)
    have e2 : wrap64 ((i : Int) + 1) = ((i + 1 : Nat) : Int) := by unfold wrap64; omega
    rw [e1, e2]
    exact ih k h (i + 1) hh (by omega) (by omega)
theorem two_is (k h : Nat) (hh : h ≤ 63) (hk : 64 ≤ k) : paymasterref16_Two.f k (h : Int) = some ((2 ^ h : Nat) : Int) := two_from h k h 0 hh (by omega) (by omega)

theorem rspan_is (k n p : Nat) (hn : n ≤ 63) (hp : (p + 1) * 2 ^ n ≤ 9223372036854775808) (hk : 65 ≤ k) : paymasterref20_Span.f k (n : Int) (p : Int) = some (((p * 2 ^ n : Nat) : Int), (((p + 1) * 2 ^ n : Nat) : Int)) := by
  obtain ⟨k, rfl⟩ : ∃ m, k = m + 1 := ⟨k - 1, by omega⟩
  have hpn := pow_nat n hn
  have h63 : (2 : Nat) ^ 63 = 9223372036854775808 := by decide
  unfold paymasterref20_Span.f
  rw [if_neg (by omega)]
  have ed : decide ((n : Int) > 63) = false := decide_eq_false (by omega)
  rw [ed]
  simp only [paymasterref20_Span.j0]
  rw [if_neg (by simp), two_is k n hn (by omega)]
  have e63 : paymasterref16_Two.f k 63 = some ((2 ^ 63 : Nat) : Int) := two_is k 63 (by omega) (by omega)
  rw [e63]
  simp only [Option.bind_some]
  rw [if_neg (by omega), h63]
  have et : Int.tdiv ((9223372036854775808 : Nat) : Int) ((2 ^ n : Nat) : Int) = ((9223372036854775808 / 2 ^ n : Nat) : Int) := rfl
  have hdiv : 9223372036854775808 / 2 ^ n ≤ 9223372036854775808 := Nat.div_le_self _ _
  have hlt : p < 9223372036854775808 / 2 ^ n := by
    rw [← Nat.succ_le_iff, Nat.le_div_iff_mul_le (by omega)]; exact hp
  have e1 : (p + 1) * 2 ^ n = p * 2 ^ n + 2 ^ n := Nat.succ_mul _ _
  rw [et, wrap_small (by omega), if_neg (by omega)]
  have e2 : (p : Int) * ((2 ^ n : Nat) : Int) = ((p * 2 ^ n : Nat) : Int) := by rw [Int.natCast_mul]
  rw [e2, wrap_small (by omega), ← Int.natCast_add, ← e1, wrap_small (by omega)]

theorem posOk_lt (h : Nat) : ∀ l : List Int, posOk h l = true → ∀ x ∈ l, x < ((2 ^ h : Nat) : Int)
  | [], _, x, hx => by cases hx
  | [y], hp, x, hx => by
    rw [pow_cast]
    obtain rfl := List.mem_singleton.1 hx
    simpa [posOk] using hp
  | y :: z :: r, hp, x, hx => by
    simp only [posOk, Bool.and_eq_true, decide_eq_true_eq] at hp
    rcases List.mem_cons.1 hx with rfl | hx
    · rw [pow_cast]; exact hp.1.1
    · exact posOk_lt h (z :: r) hp.2 x hx

theorem around_split (n b : Nat) (ps : List Int) (hp : ps ≠ []) (hs : ps.Pairwise (· < ·)) (hx : ∀ x ∈ ps, ((b * 2 ^ (n + 1) : Nat) : Int) ≤ x ∧ x < (((b + 1) * 2 ^ (n + 1) : Nat) : Int)) :
    ∃ ys zs, ps = ys ++ zs ∧ aroundL (n + 1) b ps = aroundL n ((2 * b : Nat) : Int) ys ++ aroundL n ((2 * b + 1 : Nat) : Int) zs ∧ ys.Pairwise (· < ·) ∧ zs.Pairwise (· < ·) ∧
      (∀ y ∈ ys, ((2 * b * 2 ^ n : Nat) : Int) ≤ y ∧ y < (((2 * b + 1) * 2 ^ n : Nat) : Int)) ∧ (∀ y ∈ zs, (((2 * b + 1) * 2 ^ n : Nat) : Int) ≤ y ∧ y < (((2 * b + 1 + 1) * 2 ^ n : Nat) : Int)) := by
  obtain ⟨e1, e2, e3, e4⟩ := pow_half n b
  obtain ⟨q, hq⟩ : ∃ q : Int → Bool, (fun y => decide (y < (((2 * b + 1) * 2 ^ n : Nat) : Int))) = q := ⟨_, rfl⟩
  have hsplit : ps.takeWhile q ++ ps.dropWhile q = ps := List.takeWhile_append_dropWhile
  have s1 := List.takeWhile_sublist (l := ps) q
  have s2 := List.dropWhile_sublist (l := ps) q
  have k1 : ∀ y ∈ ps.takeWhile q, y < (((2 * b + 1) * 2 ^ n : Nat) : Int) := fun y hy => by
    have : q y = true := List.all_eq_true.1 (List.all_takeWhile (p := q) (l := ps)) y hy
    rw [← hq] at this; simpa using this
  have k2 : ∀ y ∈ ps.dropWhile q, (((2 * b + 1) * 2 ^ n : Nat) : Int) ≤ y := fun y hy => by
    have hp := hs.sublist s2
    cases hd : ps.dropWhile q with
    | nil => rw [hd] at hy; cases hy
    | cons z zs =>
      have hz : q z = false := by
        have := List.head_dropWhile_not q (l := ps) (by rw [hd]; simp)
        simpa [hd] using this
      rw [← hq] at hz
      have hz' : (((2 * b + 1) * 2 ^ n : Nat) : Int) ≤ z := by simpa using hz
      rw [hd] at hy hp
      rcases List.mem_cons.1 hy with rfl | hy
      · exact hz'
      · have := (List.pairwise_cons.1 hp).1 y hy; omega
  refine ⟨ps.takeWhile q, ps.dropWhile q, hsplit.symm, ?_, hs.sublist s1, hs.sublist s2, fun y hy => ⟨?_, k1 y hy⟩, fun y hy => ⟨k2 y hy, ?_⟩⟩
  · cases ps with
    | nil => exact absurd rfl hp
    | cons x xs => rw [← hq]; simp only [aroundL]; push_cast; rfl
  · have := (hx y (s1.subset hy)).1; omega
  · have := (hx y (s2.subset hy)).2; omega

/-! the reference's loop: is any position within the block? -/
theorem rdi_at (l : List Int) (i : Nat) (h : i < l.length) : rd l (i : Int) = l[i] := by simp [rd, h]
theorem free_loop (ps : List Int) (x y n p : Int) (hl : ps.length ≤ 1000) : ∀ (d k i : Nat) (had : Bool), ps.length - i = d → i ≤ ps.length → d ≤ k →
    paymasterref20_free.l0 (k + 1) ps x y had (i : Int) n p = paymasterref20_free.l0 (k - d + 1) ps x y (had || (ps.drop i).any (fun z => decide (x ≤ z ∧ z < y))) (ps.length : Int) n p := by
  intro d
  induction d with
  | zero =>
    intro k i had h1 h2 hk
    obtain rfl : i = ps.length := by omega
    rw [List.drop_length]; simp
  | succ d ih =>
    intro k i had h1 h2 hk
    have hi : i < ps.length := by omega
    obtain ⟨k, rfl⟩ : ∃ m, k = m + 1 := ⟨k - 1, by omega⟩
    have e : wrap64 ((i : Int) + 1) = ((i + 1 : Nat) : Int) := by unfold wrap64; omega
    rw [List.drop_eq_getElem_cons hi, List.any_cons]
    rw [paymasterref20_free.l0, if_pos (by omega), e, rdi_at ps i hi]
    have en : k + 1 - (d + 1) + 1 = k - d + 1 := by omega
    rw [en]
    cases had with
    | true => rw [if_pos rfl, ih k (i + 1) true (by omega) (by omega) (by omega)]; simp
    | false =>
      rw [if_neg (by simp), if_pos (by omega)]
      by_cases c : ps[i] ≥ x
      · rw [if_pos c, ih k (i + 1) _ (by omega) (by omega) (by omega)]
        have : (x ≤ ps[i] ∧ ps[i] < y) ↔ ps[i] < y := ⟨fun h => h.2, fun h => ⟨c, h⟩⟩
        simp [this]
      · rw [if_neg c, ih k (i + 1) _ (by omega) (by omega) (by omega)]
        have : ¬ (x ≤ ps[i] ∧ ps[i] < y) := fun h => c h.1
        simp [this]

theorem free_is (n : Nat) : ∀ (k p : Nat) (qs ps : List Int), n ≤ 63 → (p + 1) * 2 ^ n ≤ 9223372036854775808 → qs.length ≤ 30 → ps.length ≤ 30 → ps.Pairwise (· < ·) →
    (∀ z ∈ ps, ((p * 2 ^ n : Nat) : Int) ≤ z ∧ z < (((p + 1) * 2 ^ n : Nat) : Int)) → (∀ z, ((p * 2 ^ n : Nat) : Int) ≤ z → z < (((p + 1) * 2 ^ n : Nat) : Int) → (z ∈ qs ↔ z ∈ ps)) → 110 + 40 * n ≤ k →
    paymasterref20_free.f k (n : Int) (p : Int) qs = some (aroundL n (p : Int) ps) := by
  induction n with
  | zero =>
    intro k p qs ps hn hp hq hl hs hb hm hk
    obtain ⟨k, rfl⟩ : ∃ m, k = m + 2 := ⟨k - 2, by omega⟩
    rw [paymasterref20_free.f, rspan_is (k + 1) 0 p hn hp (by omega)]
    simp only [Option.bind_some]
    have := free_loop qs ((p * 2 ^ 0 : Nat) : Int) (((p + 1) * 2 ^ 0 : Nat) : Int) ((0 : Nat) : Int) (p : Int) (by omega) qs.length k 0 false (by omega) (by omega) (by omega)
    rw [Int.natCast_zero] at this
    show paymasterref20_free.l0 (k + 1) qs _ _ false 0 0 (p : Int) = _
    rw [this, paymasterref20_free.l0, if_neg (by omega), List.drop_zero, Bool.false_or]
    cases ps with
    | nil =>
      have hf : (qs.any fun z => decide (((p * 2 ^ 0 : Nat) : Int) ≤ z ∧ z < (((p + 1) * 2 ^ 0 : Nat) : Int))) = false := by
        rw [List.any_eq_false]; intro z hz hd
        have hd := of_decide_eq_true hd
        exact absurd ((hm z hd.1 hd.2).1 hz) (by simp)
      rw [hf, if_neg (by simp)]; rfl
    | cons x xs =>
      have hf : (qs.any fun z => decide (((p * 2 ^ 0 : Nat) : Int) ≤ z ∧ z < (((p + 1) * 2 ^ 0 : Nat) : Int))) = true := by
        rw [List.any_eq_true]
        have hx := hb x (List.mem_cons_self ..)
        exact ⟨x, (hm x hx.1 hx.2).2 (List.mem_cons_self ..), decide_eq_true hx⟩
      rw [hf, if_pos rfl, if_pos rfl]; rfl
  | succ n ih =>
    intro k p qs ps hn hp hq hl hs hb hm hk
    obtain ⟨k, rfl⟩ : ∃ m, k = m + 2 := ⟨k - 2, by omega⟩
    obtain ⟨e1, e2, e3, e4⟩ := pow_half n p
    have hpn := pow_nat (n + 1) hn
    have hpn2 := pow_nat n (by omega)
    rw [paymasterref20_free.f, rspan_is (k + 1) (n + 1) p hn hp (by omega)]
    simp only [Option.bind_some]
    have hloop := free_loop qs ((p * 2 ^ (n + 1) : Nat) : Int) (((p + 1) * 2 ^ (n + 1) : Nat) : Int) ((n + 1 : Nat) : Int) (p : Int) (by omega) qs.length k 0 false (by omega) (by omega) (by omega)
    rw [Int.natCast_zero] at hloop
    rw [hloop, paymasterref20_free.l0, if_neg (by omega), List.drop_zero, Bool.false_or]
    by_cases hps : ps = []
    · subst hps
      have hf : (qs.any fun z => decide (((p * 2 ^ (n + 1) : Nat) : Int) ≤ z ∧ z < (((p + 1) * 2 ^ (n + 1) : Nat) : Int))) = false := by
        rw [List.any_eq_false]; intro z hz hd
        have hd := of_decide_eq_true hd
        exact absurd ((hm z hd.1 hd.2).1 hz) (by simp)
      rw [hf, if_neg (by simp)]; rfl
    · have hf : (qs.any fun z => decide (((p * 2 ^ (n + 1) : Nat) : Int) ≤ z ∧ z < (((p + 1) * 2 ^ (n + 1) : Nat) : Int))) = true := by
        obtain ⟨x, hx0⟩ := List.exists_mem_of_ne_nil ps hps
        rw [List.any_eq_true]
        have hx := hb x hx0
        exact ⟨x, (hm x hx.1 hx.2).2 hx0, decide_eq_true hx⟩
      rw [hf, if_pos rfl, if_neg (by omega)]
      obtain ⟨ys, zs, hap, hal, hy1, hz1, hy2, hz2⟩ := around_split n p ps hps hs hb
      have w1 : wrap64 (((n + 1 : Nat) : Int) - 1) = (n : Int) := by unfold wrap64; omega
      have hpp : p < 9223372036854775808 := Nat.lt_of_succ_le (Nat.le_trans (Nat.le_mul_of_pos_right _ (by omega)) hp)
      have w2 : IntKind.u64.wrap (2 * (p : Int)) = ((2 * p : Nat) : Int) := by rw [wrap_u64]; omega
      have w3 : IntKind.u64.wrap (((2 * p : Nat) : Int) + 1) = ((2 * p + 1 : Nat) : Int) := by
        have : 2 * p + 1 < 18446744073709551616 := by omega
        rw [wrap_u64]; omega
      have hlen : ys.length + zs.length = ps.length := by rw [hap, List.length_append]
      have my : ∀ z, ((2 * p * 2 ^ n : Nat) : Int) ≤ z → z < (((2 * p + 1) * 2 ^ n : Nat) : Int) → (z ∈ qs ↔ z ∈ ys) := fun z h1 h2 => by
        rw [hm z (by omega) (by omega), hap, List.mem_append]
        refine ⟨fun h => h.elim id fun h => ?_, Or.inl⟩
        have := (hz2 z h).1; omega
      have mz : ∀ z, (((2 * p + 1) * 2 ^ n : Nat) : Int) ≤ z → z < (((2 * p + 1 + 1) * 2 ^ n : Nat) : Int) → (z ∈ qs ↔ z ∈ zs) := fun z h1 h2 => by
        rw [hm z (by omega) (by omega), hap, List.mem_append]
        refine ⟨fun h => h.elim (fun h => ?_) id, Or.inr⟩
        have := (hy2 z h).2; omega
      have rec1 := ih (k - qs.length) (2 * p) qs ys (by omega) (by omega) hq (by omega) hy1 hy2 my (by omega)
      have rec2 := ih (k - qs.length) (2 * p + 1) qs zs (by omega) (by omega) hq (by omega) hz1 hz2 mz (by omega)
      rw [w1, w2, w3, rec1, rec2]
      simp only [Option.bind_some]
      have l1 := aroundL_len n ((2 * p : Nat) : Int) ys
      have l2 := aroundL_len n ((2 * p + 1 : Nat) : Int) zs
      have b1 : n * ys.length ≤ 63 * 30 := Nat.mul_le_mul (by omega) (by omega)
      have b2 : n * zs.length ≤ 63 * 30 := Nat.mul_le_mul (by omega) (by omega)
      have l1' : (aroundL n ((2 * p : Nat) : Int) ys).length ≤ 2000 := by
        refine Nat.le_trans l1 ?_
        by_cases c : ys = []
        · rw [if_pos c]; omega
        · rw [if_neg c]; omega
      have l2' : (aroundL n ((2 * p + 1 : Nat) : Int) zs).length ≤ 2000 := by
        refine Nat.le_trans l2 ?_
        by_cases c : zs = []
        · rw [if_pos c]; omega
        · rw [if_neg c]; omega
      rw [if_pos (by omega), hal]

theorem aroundL_small (h : Nat) (hh : h ≤ 63) (b : Int) (l : List Int) (hl : l.length ≤ 30) : (aroundL h b l).length ≤ 2000 := by
  have b1 : h * l.length ≤ 63 * 30 := Nat.mul_le_mul (by omega) (by omega)
  refine Nat.le_trans (aroundL_len h b l) ?_
  by_cases c : l = []
  · rw [if_pos c]; omega
  · rw [if_neg c]; omega

theorem ref_loop (h : Nat) (hh : h ≤ 63) (l : List Int) (hl : l.length ≤ 30) (hx : ∀ x ∈ l, 0 ≤ x) : ∀ (d k i : Nat), l.length - i = d → i ≤ l.length → d + 3000 ≤ k → (∀ j, j < i → okAt h l j) →
    paymasterref20_Around.l0 k (h : Int) l (i : Int) = some (if posOk h l = true then (aroundL h 0 l, 0) else ([], 2)) := by
  have hp := pow_nat h hh
  have hp0 : (0 : Int) < 2 ^ h := Int.pow_pos (by decide)
  intro d
  induction d with
  | zero =>
    intro k i h1 h2 hk hok
    obtain ⟨k, rfl⟩ : ∃ m, k = m + 1 := ⟨k - 1, by omega⟩
    obtain rfl : i = l.length := by omega
    have hpo : posOk h l = true := (posOk_iff h l hx).2 hok
    rw [paymasterref20_Around.l0, if_neg (by omega), if_pos hpo]
    have hlt := posOk_lt h l hpo
    have := free_is h k 0 l l hh (by omega) hl hl (posOk_sorted h l hpo) (fun z hz => ⟨by have := hx z hz; omega, by have := hlt z hz; omega⟩) (fun z _ _ => Iff.rfl) (by omega)
    rw [Int.natCast_zero] at this
    rw [this]; rfl
  | succ d ih =>
    intro k i h1 h2 hk hok
    obtain ⟨k, rfl⟩ : ∃ m, k = m + 1 := ⟨k - 1, by omega⟩
    have hi : i < l.length := by omega
    have e : wrap64 ((i : Int) + 1) = ((i + 1 : Nat) : Int) := by unfold wrap64; omega
    have hx0 : 0 ≤ rd l (i : Int) := by rw [rdi_at l i hi]; exact hx _ (List.getElem_mem hi)
    have step : okAt h l i → paymasterref20_Around.l0 k (h : Int) l ((i + 1 : Nat) : Int) = some (if posOk h l = true then (aroundL h 0 l, 0) else ([], 2)) := fun ho =>
      ih k (i + 1) (by omega) (by omega) (by omega) fun j hj => by
        by_cases ej : j = i
        · subst ej; exact ho
        · exact hok j (by omega)
    have bad : ¬ okAt h l i → posOk h l = false := fun hb => by
      rw [Bool.eq_false_iff]; intro hpo
      exact hb ((posOk_iff h l hx).1 hpo i hi)
    rw [paymasterref20_Around.l0, if_pos (by omega), if_pos (by omega), two_is k h hh (by omega)]
    simp only [Option.bind_some]
    rw [e]
    by_cases c : rd l (i : Int) ≥ ((2 ^ h : Nat) : Int)
    · rw [if_pos c, bad (fun ho => ?_), if_neg (by simp)]
      have h0 := ho.1
      rw [pow_cast] at c
      have := Int.ediv_le_ediv hp0 c
      rw [Int.ediv_self (by omega)] at this; omega
    · rw [if_neg c]
      have hz : rd l (i : Int) / 2 ^ h = 0 := Int.ediv_eq_zero_of_lt hx0 (by rw [← pow_cast]; omega)
      by_cases ci : i = 0
      · subst ci
        rw [if_neg (by omega)]
        exact step ⟨hz, fun h => absurd h (by omega)⟩
      · have em : wrap64 ((i : Int) - 1) = (i : Int) - 1 := by unfold wrap64; omega
        rw [if_pos (by omega), em, if_pos (by omega), if_pos (by omega)]
        by_cases c2 : rd l ((i : Int) - 1) ≥ rd l (i : Int)
        · rw [if_pos c2, bad (fun ho => ?_), if_neg (by simp)]
          have := ho.2 (by omega); omega
        · rw [if_neg c2]
          exact step ⟨hz, fun _ => by omega⟩

theorem same_from (l : List S67) (hl : l.length ≤ 1000000) : ∀ (d k i : Nat), l.length - i = d → i ≤ l.length → d < k → paymasterref20_Same.l0 k l l (i : Int) = some true := by
  intro d
  induction d with
  | zero =>
    intro k i h1 h2 hk
    obtain ⟨k, rfl⟩ : ∃ m, k = m + 1 := ⟨k - 1, by omega⟩
    simp only [paymasterref20_Same.l0]; rw [if_neg (by omega)]
  | succ d ih =>
    intro k i h1 h2 hk
    obtain ⟨k, rfl⟩ : ∃ m, k = m + 1 := ⟨k - 1, by omega⟩
    simp only [paymasterref20_Same.l0]
    rw [if_pos (by omega), if_pos (by omega), if_pos (by omega)]
    have e : wrap64 ((i : Int) + 1) = ((i + 1 : Nat) : Int) := by unfold wrap64; omega
    simp only [beq_self_eq_true, Bool.not_true, Bool.or_self, Bool.false_eq_true, if_false]
    rw [e]; exact ih k (i + 1) (by omega) (by omega) (by omega)
theorem same_refl (k : Nat) (l : List S67) (hl : l.length ≤ 100000) (hk : 100001 ≤ k) : paymasterref20_Same.f k l l = some true := by
  unfold paymasterref20_Same.f
  rw [if_pos rfl]
  exact same_from l (by omega) l.length k 0 (by omega) (by omega) (by omega)

theorem law_loop (l : List Int) (a : List S67) (e : Int) (hl : l.length ≤ 30) (ha : a.length ≤ 100000) : ∀ (d k i : Nat), l.length - i = d → i ≤ l.length → d + 100002 ≤ k → paymasterlaw20_CoverAround.l0 k l l a e a e (i : Int) = some true := by
  intro d
  induction d with
  | zero =>
    intro k i h1 h2 hk
    obtain ⟨k, rfl⟩ : ∃ m, k = m + 1 := ⟨k - 1, by omega⟩
    rw [paymasterlaw20_CoverAround.l0, if_neg (by omega), same_refl k a ha (by omega)]
    simp
  | succ d ih =>
    intro k i h1 h2 hk
    obtain ⟨k, rfl⟩ : ∃ m, k = m + 1 := ⟨k - 1, by omega⟩
    have e : wrap64 ((i : Int) + 1) = ((i + 1 : Nat) : Int) := by unfold wrap64; omega
    rw [paymasterlaw20_CoverAround.l0, if_pos (by omega), if_pos (by omega), if_pos (by omega), if_pos rfl, e]
    exact ih k (i + 1) (by omega) (by omega) (by omega)

theorem CoverAround : paymasterlaw20_CoverAround.Pure := by
  intro a0 l1 _ _ _ hw
  have hx : ∀ x ∈ l1, 0 ≤ x ∧ x < 18446744073709551616 := fun x h => u64_bd (hw x h)
  obtain ⟨K, hK⟩ : ∃ K : Nat, 199999 ≤ K := ⟨199999, Nat.le_refl _⟩
  refine ⟨K + 1, ?_⟩
  unfold paymasterlaw20_CoverAround.f
  by_cases hl : l1.length ≤ 30
  · rw [if_neg (by omega)]
    simp only [Option.bind_some, List.nil_append, List.length_nil]
    rw [if_pos (by omega)]
    by_cases c : 0 ≤ a0 ∧ a0 ≤ 63
    · obtain ⟨h, rfl⟩ := Int.eq_ofNat_of_zero_le c.1
      have hh : h ≤ 63 := by omega
      have hA : cover_Around.f (K + 1) (h : Int) l1 = some (if posOk h l1 = true then (aroundL h 0 l1, 0) else ([], 2)) := by
        unfold cover_Around.f; rw [if_pos ⟨by omega, hx⟩, if_pos (by omega), Int.toNat_natCast]
        by_cases hpo : posOk h l1 = true
        · rw [if_pos hpo, if_pos hpo]
        · rw [if_neg hpo, if_neg hpo]
      have hB : paymasterref20_Around.f (K + 1) (h : Int) l1 = some (if posOk h l1 = true then (aroundL h 0 l1, 0) else ([], 2)) := by
        unfold paymasterref20_Around.f
        have ed : decide ((h : Int) > 63) = false := decide_eq_false (by omega)
        rw [if_neg (by omega), ed, paymasterref20_Around.j0, if_neg (by simp)]
        exact ref_loop h hh l1 hl (fun x hm => (hx x hm).1) l1.length K 0 (by omega) (by omega) (by omega) (fun j hj => by omega)
      rw [hA, hB]
      simp only [Option.bind_some]
      have hle : ((if posOk h l1 = true then (aroundL h 0 l1, (0 : Int)) else ([], 2)).1).length ≤ 100000 := by
        by_cases hpo : posOk h l1 = true
        · rw [if_pos hpo]; have := aroundL_small h hh 0 l1 hl; dsimp only; omega
        · rw [if_neg hpo]; simp
      exact law_loop l1 _ _ hl hle l1.length (K + 1) 0 (by omega) (by omega) (by omega)
    · have hA : cover_Around.f (K + 1) a0 l1 = some ([], 120) := by
        unfold cover_Around.f; rw [if_pos ⟨by omega, hx⟩, if_neg c]
      have hB : paymasterref20_Around.f (K + 1) a0 l1 = some ([], 120) := by
        unfold paymasterref20_Around.f
        by_cases c2 : a0 < 0
        · rw [if_pos c2, paymasterref20_Around.j0, if_pos rfl]
        · have ed : decide (a0 > 63) = true := decide_eq_true (by omega)
          rw [if_neg c2, ed, paymasterref20_Around.j0, if_pos rfl]
      rw [hA, hB]
      simp only [Option.bind_some]
      exact law_loop l1 _ _ hl (by simp) l1.length (K + 1) 0 (by omega) (by omega) (by omega)
  · rw [if_pos (by omega)]
end Go.Proofs.Ytaeaacdjiijooaa.Pr
