/- Rows of blocks that tile a stretch of positions; what Span, Has, Whole, awake of the program come to. -/
import Derived.Test.YtaeaacdjiijooaaDoorPrx14
import Derived.Test.YtaeaacdjiijooaaDoorPrx15
import Derived.Test.YtaeaacdjiijooaaDoorPrx16
import Derived.Test.YtaeaacdjiijooaaDoorPrx18
import Derived.Test.YtaeaacdjiijooaaDoorPureCoverRanges
namespace Go.Proofs.YtaeaacdjiijooaaDoor.Pr
open Go.RowKit Go.Proofs.YtaeaacdjiijooaaDoorW.PrintWords Go.Proofs.YtaeaacdjiijooaaDoorW.PrintLast Go.Proofs.YtaeaacdjiijooaaDoorW.PrintMore

/-- A block that may be: its level and place. -/
structure BlkAt (x : S33) (a b : Nat) : Prop where
  ex : ∃ n p : Nat, x = ⟨(n : Int), (p : Int)⟩ ∧ n ≤ 63 ∧ p * 2 ^ n = a ∧ (p + 1) * 2 ^ n = b ∧ b ≤ 9223372036854775808
def Tiles : Nat → Nat → List S33 → Prop
  | a, b, [] => a = b
  | a, b, x :: l => ∃ c, BlkAt x a c ∧ Tiles c b l
theorem BlkAt.lt {x : S33} {a b : Nat} (h : BlkAt x a b) : a < b := by
  obtain ⟨n, p, _, _, rfl, rfl, _⟩ := h.ex
  have := Nat.two_pow_pos n
  rw [Nat.succ_mul]; omega
theorem BlkAt.le {x : S33} {a b : Nat} (h : BlkAt x a b) : b ≤ 9223372036854775808 := by obtain ⟨n, p, _, _, _, _, h⟩ := h.ex; exact h
theorem Tiles.le : ∀ {l : List S33} {a b : Nat}, Tiles a b l → a ≤ b
  | [], _, _, h => Nat.le_of_eq h
  | _ :: _, _, _, ⟨_, h1, h2⟩ => Nat.le_trans (Nat.le_of_lt h1.lt) h2.le
theorem Tiles.append : ∀ {l m : List S33} {a b c : Nat}, Tiles a b l → Tiles b c m → Tiles a c (l ++ m)
  | [], _, _, _, _, h, k => by cases h; exact k
  | _ :: _, _, _, _, _, ⟨d, h1, h2⟩, k => ⟨d, h1, h2.append k⟩

theorem G_tiles : ∀ (d a b : Nat), b - a = d → a ≤ b → b ≤ 9223372036854775808 → Tiles a b (G a b) := by
  intro d
  induction d using Nat.strongRecOn with
  | ind d ih =>
    intro a b hd hab hb
    by_cases h : a < b
    · rw [G_step h]
      obtain ⟨h1, h2, _⟩ := lv_spec a (b - a) (by omega) (by omega) (by omega)
      obtain ⟨l, hl⟩ : ∃ l, lv a (b - a) = l := ⟨_, rfl⟩
      rw [hl] at h1 h2 ⊢
      have hp := Nat.two_pow_pos l
      have e1 : a / 2 ^ l * 2 ^ l = a := Nat.div_mul_cancel h1
      have e2 : (a / 2 ^ l + 1) * 2 ^ l = a + 2 ^ l := by rw [Nat.succ_mul, e1]
      have hl63 : l ≤ 63 := by
        apply Nat.le_of_not_lt; intro hh
        have := Nat.pow_le_pow_right (n := 2) (by omega) hh
        have e : (2 : Nat) ^ (63 + 1) = 18446744073709551616 := by decide
        have : (2 : Nat) ^ (63 + 1) ≤ 2 ^ l := this
        omega
      exact ⟨a + 2 ^ l, ⟨l, a / 2 ^ l, rfl, hl63, e1, e2, by omega⟩, ih _ (by omega) _ _ rfl (by omega) hb⟩
    · have : a = b := by omega
      subst this
      rw [G_nil (Nat.le_refl _)]; rfl

theorem H_tiles {h a b : Nat} (hh : h ≤ 63) (hab : a ≤ b) (hb : b ≤ 2 ^ h) : Tiles a b (H h 0 a b) := by
  have := pow_nat h hh
  rw [← G_H hh hb]; exact G_tiles _ a b rfl hab (by omega)

theorem span_is {x : S33} {a b : Nat} (h : BlkAt x a b) : cover_Span.f x.f0 x.f1 = some ((a : Int), (b : Int)) := by
  obtain ⟨n, p, rfl, hn, rfl, rfl, hb⟩ := h.ex
  have hpn := pow_nat n hn
  have hq := Nat.two_pow_pos n
  unfold cover_Span.f
  simp only [high_is, Option.bind_some]
  rw [if_pos (by simp; omega)]
  have w1 : wrap64 (63 - (n : Int)) = ((63 - n : Nat) : Int) := by rw [IntWalk.wrap64_in _ (by omega)]; omega
  rw [w1, if_pos (by omega), shl_one (63 - n) (by omega)]
  have e63 : 2 ^ (63 - n) * 2 ^ n = 9223372036854775808 := by rw [← Nat.pow_add, show 63 - n + n = 63 by omega]
  have hlt : p < 2 ^ (63 - n) := by
    apply Nat.lt_of_not_le; intro hge
    have := Nat.mul_le_mul_right (2 ^ n) hge
    rw [Nat.succ_mul] at hb
    omega
  have hp63 := pow_nat (63 - n) (by omega)
  rw [if_neg (by omega), if_pos (by omega)]
  have e2 : (p : Int) + 1 = ((p + 1 : Nat) : Int) := by omega
  have hm : p * 2 ^ n < (p + 1) * 2 ^ n := by rw [Nat.succ_mul]; omega
  rw [e2, wrap_small (by omega), shl_nat _ _ (by omega), shl_nat _ _ (by omega), Nat.mod_eq_of_lt (by omega), Nat.mod_eq_of_lt (by omega)]

theorem has_is {x : S33} {a b : Nat} (h : BlkAt x a b) (q : Nat) : cover_Has.f x.f0 x.f1 (q : Int) = some (decide (a ≤ q ∧ q < b)) := by
  unfold cover_Has.f
  rw [span_is h]
  simp only [Option.bind_some]
  by_cases h1 : a ≤ q
  · rw [if_pos (by omega)]; simp [h1]
  · rw [if_neg (by omega)]; simp [h1]

theorem rd_at (l : List S33) (i : Nat) (h : i < l.length) : rd_T33 l (i : Int) = l[i] := by simp [rd_T33, h]
theorem Tiles.drop_cons {l : List S33} {i a b : Nat} (hi : i < l.length) (h : Tiles a b (l.drop i)) : ∃ c, BlkAt (rd_T33 l (i : Int)) a c ∧ Tiles c b (l.drop (i + 1)) := by
  rw [List.drop_eq_getElem_cons hi] at h
  rw [rd_at l i hi]; exact h

theorem whole_from (l : List S33) (b : Nat) (hl : l.length ≤ 1000000) : ∀ (d k i a : Nat), l.length - i = d → i ≤ l.length → d < k → Tiles a b (l.drop i) →
    cover_Whole.l0 k (a : Int) l (l.length : Int) (i : Int) = some ((b : Int), true) := by
  intro d
  induction d with
  | zero =>
    intro k i a h1 h2 hk ht
    obtain ⟨k, rfl⟩ : ∃ m, k = m + 1 := ⟨k - 1, by omega⟩
    rw [List.drop_of_length_le (by omega)] at ht
    simp only [cover_Whole.l0]; rw [if_neg (by omega)]; cases ht; rfl
  | succ d ih =>
    intro k i a h1 h2 hk ht
    obtain ⟨k, rfl⟩ : ∃ m, k = m + 1 := ⟨k - 1, by omega⟩
    obtain ⟨c, hb, ht'⟩ := ht.drop_cons (by omega)
    have hlt := hb.lt
    simp only [cover_Whole.l0]
    rw [if_pos (by omega), if_pos (by omega), if_pos (by omega), span_is hb]
    simp only [Option.bind_some]
    rw [if_pos trivial, if_neg (by omega)]
    have w : wrap64 ((i : Int) + 1) = ((i + 1 : Nat) : Int) := by rw [IntWalk.wrap64_in _ (by omega)]; omega
    rw [w]
    exact ih k (i + 1) c (by omega) (by omega) (by omega) ht'
theorem whole_is {l : List S33} {a b k : Nat} (ht : Tiles a b l) (hl : l.length ≤ 1000000) (hk : l.length < k) : cover_Whole.f k (a : Int) l = some ((b : Int), true) :=
  whole_from l b hl l.length k 0 a (by omega) (by omega) hk (by simpa using ht)

theorem ltwo_is (h : Nat) (hh : h ≤ 63) : paymasterlaw20_two.f (h : Int) = some ((2 ^ h : Nat) : Int) := by
  unfold paymasterlaw20_two.f
  rw [wrap_small (by omega), if_pos (by omega), shl_one h hh]

theorem awake_is (k : Nat) (hk : 100001 ≤ k) : paymasterlaw20_awake.f k = some true := by
  unfold paymasterlaw20_awake.f
  have e1 : cover_Of.f k 3 1 7 = some (H 3 0 1 7, 0) := Of_is k 3 1 7 (by omega) (by omega)
  have e2 : cover_Of.f k 3 2 9 = some ([], 200) := Of_is k 3 2 9 (by omega) (by omega)
  have e3 : cover_Of.f k 64 0 1 = some ([], 120) := Of_no k 64 0 1 (by omega)
  have e4 : cover_Around.f k 3 [5] = some ([⟨2, 0⟩, ⟨0, 4⟩, ⟨1, 3⟩], 0) := by rfl
  have e5 : cover_Around.f k 3 [5, 5] = some ([], 2) := by rfl
  have e6 : H 3 0 1 7 = [⟨0, 1⟩, ⟨1, 1⟩, ⟨1, 2⟩, ⟨0, 6⟩] := by rfl
  rw [e1, e2, e3, e4, e5, e6]
  simp only [Option.bind_some]
  rw [same_refl k [⟨0, 1⟩, ⟨1, 1⟩, ⟨1, 2⟩, ⟨0, 6⟩] (by simp) hk, same_refl k [⟨2, 0⟩, ⟨0, 4⟩, ⟨1, 3⟩] (by simp) hk]
  simp
end Go.Proofs.YtaeaacdjiijooaaDoor.Pr
