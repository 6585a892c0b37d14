/- Plain laws on blocks: the greedy row of blocks from a to b is what halving finds; how long it is. -/
import Derived.Test.YtaeaacdjiijooaaDoorPrx0
import Derived.Lib.TrailingZeros
import Derived.Lib.BitFns
import Derived.Lib.ItoaNum
namespace Go.Proofs.YtaeaacdjiijooaaDoor.Pr

/-- The greatest level of a block that begins at a and has at most d positions. -/
def lv (a d : Nat) : Nat := min (Lib.ctz 64 a) (Lib.bitLen d - 1)

theorem lv_spec (a d : Nat) (ha : a < 2 ^ 64) (hd : 0 < d) (hd2 : d < 2 ^ 64) : 2 ^ lv a d ∣ a ∧ 2 ^ lv a d ≤ d ∧ ∀ j, 2 ^ j ∣ a → 2 ^ j ≤ d → j ≤ lv a d := by
  obtain ⟨b1, b2, b3⟩ := Lib.bitLenAux_bounds 64 d hd2 (by omega)
  have hB : Lib.bitLenAux 64 d = Lib.bitLen d := rfl
  rw [hB] at b1 b2 b3
  have jb : ∀ j, 2 ^ j ≤ d → j ≤ Lib.bitLen d - 1 := fun j hj => by
    apply Nat.le_of_not_lt; intro h
    have : 2 ^ Lib.bitLen d ≤ 2 ^ j := Nat.pow_le_pow_right (by omega) (by omega)
    omega
  unfold lv
  by_cases h0 : a = 0
  · subst h0
    have e : Lib.ctz 64 0 = 64 := rfl
    have hb : Lib.bitLen d ≤ 64 := Lib.bitLen_le d 64 (by omega) hd2
    have em : min (Lib.ctz 64 0) (Lib.bitLen d - 1) = Lib.bitLen d - 1 := by rw [e]; omega
    rw [em]
    exact ⟨Nat.dvd_zero _, b2, fun j _ hj => jb j hj⟩
  · obtain ⟨m, hm, hc⟩ := Lib.ctzFrom_spec 64 a (by omega) ha
    have e : Lib.ctz 64 a = Lib.ctzFrom 64 a := by simp [Lib.ctz, h0]
    rw [← e] at hm hc
    have dv : 2 ^ Lib.ctz 64 a ∣ a := ⟨_, hm⟩
    refine ⟨Nat.dvd_trans (Nat.pow_dvd_pow 2 (Nat.min_le_left _ _)) dv, Nat.le_trans (Nat.pow_le_pow_right (by omega) (Nat.min_le_right _ _)) b2, fun j hj1 hj2 => Nat.le_min.2 ⟨?_, jb j hj2⟩⟩
    apply Nat.le_of_not_lt; intro h
    have h1 : 2 ^ (Lib.ctz 64 a + 1) ∣ a := Nat.dvd_trans (Nat.pow_dvd_pow 2 h) hj1
    obtain ⟨q, hq⟩ := h1
    clear dv hj1 hj2 h hc e jb
    generalize Lib.ctz 64 a = c at hm hq
    have h2 : 2 ^ c * (2 * q) = 2 ^ c * (2 * m + 1) := by rw [← hm, hq, Nat.pow_succ, Nat.mul_assoc]
    have := Nat.eq_of_mul_eq_mul_left (Nat.two_pow_pos c) h2
    omega

theorem lv_eq {a d l : Nat} (ha : a < 2 ^ 64) (hd2 : d < 2 ^ 64) (h1 : 2 ^ l ∣ a) (h2 : 2 ^ l ≤ d) (h3 : ∀ j, 2 ^ j ∣ a → 2 ^ j ≤ d → j ≤ l) : lv a d = l := by
  have hd : 0 < d := Nat.lt_of_lt_of_le (Nat.two_pow_pos l) h2
  obtain ⟨g1, g2, g3⟩ := lv_spec a d ha hd hd2
  exact Nat.le_antisymm (h3 _ g1 g2) (g3 _ h1 h2)

/-- The greedy row of blocks from a to b. -/
def G (a b : Nat) : List S33 := if h : a < b then ⟨(lv a (b - a) : Nat), ((a / 2 ^ lv a (b - a) : Nat) : Int)⟩ :: G (a + 2 ^ lv a (b - a)) b else []
termination_by b - a
decreasing_by have := Nat.two_pow_pos (lv a (b - a)); omega

theorem G_nil {a b : Nat} (h : b ≤ a) : G a b = [] := by unfold G; rw [dif_neg (by omega)]
theorem G_step {a b : Nat} (h : a < b) : G a b = ⟨(lv a (b - a) : Nat), ((a / 2 ^ lv a (b - a) : Nat) : Int)⟩ :: G (a + 2 ^ lv a (b - a)) b := by rw [G.eq_1, dif_pos h]

theorem G_whole (n p : Nat) (h : (p + 1) * 2 ^ n < 2 ^ 64) : G (p * 2 ^ n) ((p + 1) * 2 ^ n) = [⟨(n : Nat), (p : Nat)⟩] := by
  have hp := Nat.two_pow_pos n
  have e : (p + 1) * 2 ^ n = p * 2 ^ n + 2 ^ n := by rw [Nat.succ_mul]
  have e2 : (p + 1) * 2 ^ n - p * 2 ^ n = 2 ^ n := by omega
  have l : lv (p * 2 ^ n) ((p + 1) * 2 ^ n - p * 2 ^ n) = n := by
    rw [e2]
    refine lv_eq (by omega) (by omega) ⟨p, Nat.mul_comm _ _⟩ (Nat.le_refl _) (fun j _ hj => ?_)
    apply Nat.le_of_not_lt; intro h
    have := Nat.pow_lt_pow_right (a := 2) (by omega) h
    omega
  rw [G_step (by omega), l, Nat.mul_div_cancel _ hp, G_nil (by omega)]

theorem G_split (n p b : Nat) (hb : b < 2 ^ 64) (hb2 : b ≤ (2 * p + 1) * 2 ^ n + 2 ^ n) (hm : (2 * p + 1) * 2 ^ n ≤ b) :
    ∀ (d a : Nat), (2 * p + 1) * 2 ^ n - a = d → a ≤ (2 * p + 1) * 2 ^ n → (2 * p + 1) * 2 ^ n ≤ a + 2 ^ n → ¬ (a + 2 ^ n = (2 * p + 1) * 2 ^ n ∧ b = (2 * p + 1) * 2 ^ n + 2 ^ n) →
      G a b = G a ((2 * p + 1) * 2 ^ n) ++ G ((2 * p + 1) * 2 ^ n) b := by
  intro d
  induction d using Nat.strongRecOn with
  | _ d ih =>
    intro a hd ha1 ha2 hx
    have hpn := Nat.two_pow_pos n
    by_cases he : a = (2 * p + 1) * 2 ^ n
    · rw [he, G_nil (Nat.le_refl _)]; rfl
    · have hlt : a < (2 * p + 1) * 2 ^ n := by omega
      obtain ⟨g1, g2, g3⟩ := lv_spec a (b - a) (by omega) (by omega) (by omega)
      have key : 2 ^ lv a (b - a) ≤ (2 * p + 1) * 2 ^ n - a := by
        by_cases hl : lv a (b - a) ≤ n
        · have d1 : 2 ^ lv a (b - a) ∣ (2 * p + 1) * 2 ^ n := Nat.dvd_trans (Nat.pow_dvd_pow 2 hl) (Nat.dvd_mul_left _ _)
          exact Nat.le_of_dvd (by omega) (Nat.dvd_sub d1 g1)
        · exfalso
          have d1 : 2 ^ (n + 1) ∣ a := Nat.dvd_trans (Nat.pow_dvd_pow 2 (by omega)) g1
          obtain ⟨c, hc⟩ := d1
          have hle : 2 ^ (n + 1) ≤ b - a := Nat.le_trans (Nat.pow_le_pow_right (by omega) (by omega)) g2
          rw [Nat.pow_succ] at hc hle
          have hc2 : a = 2 * c * 2 ^ n := by rw [hc, Nat.mul_assoc, Nat.mul_comm (2 ^ n) (2 * c)]
          have l1 : 2 * c < 2 * p + 1 := Nat.lt_of_mul_lt_mul_right (a := 2 ^ n) (by rw [← hc2]; exact hlt)
          have l2 : 2 * p + 1 ≤ 2 * c + 1 := Nat.le_of_mul_le_mul_right (c := 2 ^ n) (by rw [Nat.succ_mul (2 * c), ← hc2]; exact ha2) hpn
          have hcp : c = p := by omega
          subst hcp
          have e3 : (2 * c + 1) * 2 ^ n = a + 2 ^ n := by rw [Nat.succ_mul, ← hc2]
          exact hx ⟨e3.symm, by omega⟩
      have same : lv a ((2 * p + 1) * 2 ^ n - a) = lv a (b - a) :=
        lv_eq (by omega) (by omega) g1 key (fun j h1 h2 => g3 j h1 (by omega))
      have hpos := Nat.two_pow_pos (lv a (b - a))
      rw [G_step (a := a) (b := b) (by omega), G_step (a := a) (b := (2 * p + 1) * 2 ^ n) hlt, same]
      rw [ih ((2 * p + 1) * 2 ^ n - (a + 2 ^ lv a (b - a))) (by omega) (a + 2 ^ lv a (b - a)) rfl (by omega) (by omega) (by omega)]
      rfl

/-- What halving finds: the blocks of a to b within the block (n, p). -/
def H : Nat → Nat → Nat → Nat → List S33
  | 0, p, a, b => if (p + 1) * 2 ^ 0 ≤ a ∨ b ≤ p * 2 ^ 0 then [] else [⟨0, (p : Nat)⟩]
  | n + 1, p, a, b => if (p + 1) * 2 ^ (n + 1) ≤ a ∨ b ≤ p * 2 ^ (n + 1) then [] else if a ≤ p * 2 ^ (n + 1) ∧ (p + 1) * 2 ^ (n + 1) ≤ b then [⟨(n + 1 : Nat), (p : Nat)⟩] else H n (2 * p) a b ++ H n (2 * p + 1) a b

theorem H_out {n p a b : Nat} (h : (p + 1) * 2 ^ n ≤ a ∨ b ≤ p * 2 ^ n) : H n p a b = [] := by cases n <;> (simp only [H]; rw [if_pos h])
theorem H_whole {n p a b : Nat} (h1 : a ≤ p * 2 ^ n) (h2 : (p + 1) * 2 ^ n ≤ b) : H n p a b = [⟨(n : Nat), (p : Nat)⟩] := by
  have hp := Nat.two_pow_pos n
  have e : (p + 1) * 2 ^ n = p * 2 ^ n + 2 ^ n := by rw [Nat.succ_mul]
  cases n with
  | zero => simp only [H]; rw [if_neg (by omega)]; rfl
  | succ n => simp only [H]; rw [if_neg (by omega), if_pos ⟨h1, h2⟩]
theorem H_part {n p a b : Nat} (h1 : a < (p + 1) * 2 ^ (n + 1)) (h2 : p * 2 ^ (n + 1) < b) (h3 : ¬ (a ≤ p * 2 ^ (n + 1) ∧ (p + 1) * 2 ^ (n + 1) ≤ b)) : H (n + 1) p a b = H n (2 * p) a b ++ H n (2 * p + 1) a b := by
  simp only [H]; rw [if_neg (by omega), if_neg h3]

theorem pow_half (n p : Nat) : p * 2 ^ (n + 1) = 2 * p * 2 ^ n ∧ (p + 1) * 2 ^ (n + 1) = (2 * p + 1) * 2 ^ n + 2 ^ n ∧ (2 * p + 1) * 2 ^ n = 2 * p * 2 ^ n + 2 ^ n ∧ (2 * p + 1 + 1) * 2 ^ n = (2 * p + 1) * 2 ^ n + 2 ^ n := by
  refine ⟨by rw [Nat.pow_succ, Nat.mul_comm 2 p, Nat.mul_assoc, Nat.mul_comm (2 ^ n) 2], ?_, Nat.succ_mul _ _, Nat.succ_mul _ _⟩
  rw [Nat.pow_succ, ← Nat.succ_mul, Nat.mul_comm (2 ^ n) 2, ← Nat.mul_assoc]
  congr 1; omega

theorem H_eq (n : Nat) : ∀ (p a b : Nat), b < 2 ^ 64 → (p + 1) * 2 ^ n < 2 ^ 64 → H n p a b = G (max a (p * 2 ^ n)) (min b ((p + 1) * 2 ^ n)) := by
  induction n with
  | zero =>
    intro p a b hb hp
    by_cases h : (p + 1) * 2 ^ 0 ≤ a ∨ b ≤ p * 2 ^ 0
    · rw [H_out h, G_nil (by omega)]
    · rw [H_whole (by omega) (by omega), Nat.max_eq_right (by omega), Nat.min_eq_right (by omega), G_whole 0 p hp]
  | succ n ih =>
    intro p a b hb hp
    obtain ⟨e1, e2, e3, e4⟩ := pow_half n p
    have hpn := Nat.two_pow_pos n
    by_cases h : (p + 1) * 2 ^ (n + 1) ≤ a ∨ b ≤ p * 2 ^ (n + 1)
    · rw [H_out h, G_nil (by omega)]
    · by_cases hw : a ≤ p * 2 ^ (n + 1) ∧ (p + 1) * 2 ^ (n + 1) ≤ b
      · rw [H_whole hw.1 hw.2, Nat.max_eq_right hw.1, Nat.min_eq_right hw.2, G_whole (n + 1) p hp]
      · rw [H_part (by omega) (by omega) hw, ih (2 * p) a b hb (by omega), ih (2 * p + 1) a b hb (by omega), e1, e2, e4]
        by_cases c1 : b ≤ (2 * p + 1) * 2 ^ n
        · rw [G_nil (a := max a ((2 * p + 1) * 2 ^ n)) (by omega), List.append_nil, Nat.min_eq_left c1, Nat.min_eq_left (by omega)]
        · by_cases c2 : (2 * p + 1) * 2 ^ n ≤ a
          · rw [G_nil (a := max a (2 * p * 2 ^ n)) (by omega), List.nil_append, Nat.max_eq_left c2, Nat.max_eq_left (by omega)]
          · rw [Nat.min_eq_right (by omega), Nat.max_eq_right (a := a) (b := (2 * p + 1) * 2 ^ n) (by omega)]
            exact (G_split n p (min b ((2 * p + 1) * 2 ^ n + 2 ^ n)) (by omega) (by omega) (by omega) _ (max a (2 * p * 2 ^ n)) rfl (by omega) (by omega) (by omega)).symm

theorem H_pre (n : Nat) : ∀ (p a b : Nat), a ≤ p * 2 ^ n → (H n p a b).length ≤ max 1 n := by
  induction n with
  | zero => intro p a b h; simp only [H]; split <;> simp
  | succ n ih =>
    intro p a b h
    obtain ⟨e1, e2, e3, e4⟩ := pow_half n p
    have hpn := Nat.two_pow_pos n
    by_cases h0 : (p + 1) * 2 ^ (n + 1) ≤ a ∨ b ≤ p * 2 ^ (n + 1)
    · rw [H_out h0]; simp
    · by_cases hw : a ≤ p * 2 ^ (n + 1) ∧ (p + 1) * 2 ^ (n + 1) ≤ b
      · rw [H_whole hw.1 hw.2]; simp
      · rw [H_part (by omega) (by omega) hw]
        by_cases c : b ≤ (2 * p + 1) * 2 ^ n
        · rw [H_out (n := n) (p := 2 * p + 1) (.inr c), List.append_nil]
          have := ih (2 * p) a b (by omega); omega
        · rw [H_whole (n := n) (p := 2 * p) (by omega) (by omega)]
          have := ih (2 * p + 1) a b (by omega)
          cases n with
          | zero => exfalso; omega
          | succ n => simp; omega

theorem H_suf (n : Nat) : ∀ (p a b : Nat), (p + 1) * 2 ^ n ≤ b → (H n p a b).length ≤ max 1 n := by
  induction n with
  | zero => intro p a b h; simp only [H]; split <;> simp
  | succ n ih =>
    intro p a b h
    obtain ⟨e1, e2, e3, e4⟩ := pow_half n p
    have hpn := Nat.two_pow_pos n
    by_cases h0 : (p + 1) * 2 ^ (n + 1) ≤ a ∨ b ≤ p * 2 ^ (n + 1)
    · rw [H_out h0]; simp
    · by_cases hw : a ≤ p * 2 ^ (n + 1) ∧ (p + 1) * 2 ^ (n + 1) ≤ b
      · rw [H_whole hw.1 hw.2]; simp
      · rw [H_part (by omega) (by omega) hw]
        by_cases c : (2 * p + 1) * 2 ^ n ≤ a
        · rw [H_out (n := n) (p := 2 * p) (.inl (by omega)), List.nil_append]
          have := ih (2 * p + 1) a b (by omega); omega
        · rw [H_whole (n := n) (p := 2 * p + 1) (by omega) (by omega)]
          have := ih (2 * p) a b (by omega)
          cases n with
          | zero => exfalso; omega
          | succ n => simp; omega

theorem H_len (n : Nat) : ∀ (p a b : Nat), (H n p a b).length ≤ max 1 (2 * n) := by
  induction n with
  | zero => intro p a b; simp only [H]; split <;> simp
  | succ n ih =>
    intro p a b
    obtain ⟨e1, e2, e3, e4⟩ := pow_half n p
    by_cases h0 : (p + 1) * 2 ^ (n + 1) ≤ a ∨ b ≤ p * 2 ^ (n + 1)
    · rw [H_out h0]; simp
    · by_cases hw : a ≤ p * 2 ^ (n + 1) ∧ (p + 1) * 2 ^ (n + 1) ≤ b
      · rw [H_whole hw.1 hw.2]; simp; omega
      · rw [H_part (by omega) (by omega) hw, List.length_append]
        by_cases c : b ≤ (2 * p + 1) * 2 ^ n
        · rw [H_out (n := n) (p := 2 * p + 1) (.inr c)]
          have := ih (2 * p) a b; simp; omega
        · by_cases c2 : (2 * p + 1) * 2 ^ n ≤ a
          · rw [H_out (n := n) (p := 2 * p) (.inl (by omega))]
            have := ih (2 * p + 1) a b; simp; omega
          · have h1 := H_suf n (2 * p) a b (by omega)
            have h2 := H_pre n (2 * p + 1) a b (by omega)
            omega
end Go.Proofs.YtaeaacdjiijooaaDoor.Pr
