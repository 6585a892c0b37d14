/- Plain: the reference's Find, At, Free, May say what the program's say; SlotsFinds answers true. -/
import Derived.Test.YtfijhbfdkcajjaaDoorWalk
import Derived.Test.YtfijhbfdkcajjaaDoorUtf
namespace Go.Proofs.YtfijhbfdkcajjaaDoor.Pr
open Go.RowKit Go.Proofs.YtfijhbfdkcajjaaDoorW.PrintWords Go.Proofs.YtfijhbfdkcajjaaDoorW.PrintLast Go.Proofs.YtfijhbfdkcajjaaDoorW.PrintMore
set_option linter.unusedVariables false
set_option linter.unusedSimpArgs false

theorem rd_is (l : List S28) (i : Nat) (h : i < l.length) : rd_T28 l (i : Int) = l[i] := by simp [rd_T28, h]
theorem w64_succ (i : Nat) (h : i ≤ 1000000) : wrap64 ((i : Int) + 1) = ((i + 1 : Nat) : Int) := by rw [w64 (by omega) (by omega)]; push_cast; rfl
theorem rfind_l (l : List S28) (a : ByteArray) (hl : l.length ≤ 1000) : ∀ (d i k : Nat), i + d = l.length → d + 1 ≤ k → paymasterref12_Find.l0 k l a (i : Int) = some (foundT ((l.drop i).find? (isId a)))
  | 0, i, k, hi, hk => by
    obtain ⟨k, rfl⟩ : ∃ q, k = q + 1 := ⟨k - 1, by omega⟩
    rw [paymasterref12_Find.l0, if_neg (by omega), List.drop_eq_nil_of_le (by omega)]; rfl
  | d + 1, i, k, hi, hk => by
    obtain ⟨k, rfl⟩ : ∃ q, k = q + 1 := ⟨k - 1, by omega⟩
    have hlt : i < l.length := by omega
    rw [paymasterref12_Find.l0, if_pos (by omega), if_pos (by omega), rd_is l i hlt, List.drop_eq_getElem_cons hlt, List.find?_cons]
    by_cases c : l[i].f0.toList = a.toList
    · rw [if_pos c, show isId a l[i] = true from by unfold isId; rw [c]; simp]; rfl
    · rw [if_neg c, show isId a l[i] = false from by unfold isId; simpa using c, w64_succ i (by omega), rfind_l l a hl d (i + 1) k (by omega) (by omega)]
theorem rfind_is (l : List S28) (a : ByteArray) (hl : l.length ≤ 1000) (k : Nat) (hk : l.length + 1 ≤ k) : paymasterref12_Find.f k l a = some (foundT (l.find? (isId a))) := by
  have := rfind_l l a hl l.length 0 k (by omega) hk
  rw [List.drop_zero] at this
  exact this
theorem rat_l (l : List S28) (a : Int) (hl : l.length ≤ 1000) : ∀ (d i k : Nat), i + d = l.length → d + 1 ≤ k → paymasterref12_At.l0 k l a (i : Int) = some (foundT ((l.drop i).find? (isSlot a)))
  | 0, i, k, hi, hk => by
    obtain ⟨k, rfl⟩ : ∃ q, k = q + 1 := ⟨k - 1, by omega⟩
    rw [paymasterref12_At.l0, if_neg (by omega), List.drop_eq_nil_of_le (by omega)]; rfl
  | d + 1, i, k, hi, hk => by
    obtain ⟨k, rfl⟩ : ∃ q, k = q + 1 := ⟨k - 1, by omega⟩
    have hlt : i < l.length := by omega
    rw [paymasterref12_At.l0, if_pos (by omega), if_pos (by omega), rd_is l i hlt, List.drop_eq_getElem_cons hlt, List.find?_cons]
    by_cases c : l[i].f3 = a
    · rw [if_pos c, show isSlot a l[i] = true from by unfold isSlot; rw [c]; simp]; rfl
    · rw [if_neg c, show isSlot a l[i] = false from by unfold isSlot; simpa using c, w64_succ i (by omega), rat_l l a hl d (i + 1) k (by omega) (by omega)]
theorem rat_is (l : List S28) (a : Int) (hl : l.length ≤ 1000) (k : Nat) (hk : l.length + 1 ≤ k) : paymasterref12_At.f k l a = some (foundT (l.find? (isSlot a))) := by
  have := rat_l l a hl l.length 0 k (by omega) hk
  rw [List.drop_zero] at this
  exact this
theorem pow_small (n : Nat) (h : n ≤ 10) : 1 ≤ 2 ^ n ∧ 2 ^ n ≤ 1024 := by
  have a1 : (1 : Nat) ≤ 2 ^ n := Nat.one_le_two_pow
  have a2 : (2 : Nat) ^ n ≤ 2 ^ 10 := Nat.pow_le_pow_right (by omega) h
  have a3 : (2 : Nat) ^ 10 = 1024 := by decide
  omega
theorem rmany_l (n : Nat) (hn : n ≤ 10) : ∀ (d i k : Nat), i + d = n → d + 1 ≤ k → paymasterref12_Many.l0 k (n : Int) ((2 ^ i : Nat) : Int) (i : Int) = some ((2 ^ n : Nat) : Int)
  | 0, i, k, hi, hk => by
    obtain ⟨k, rfl⟩ : ∃ q, k = q + 1 := ⟨k - 1, by omega⟩
    rw [paymasterref12_Many.l0, if_neg (by omega), show i = n by omega]
  | d + 1, i, k, hi, hk => by
    obtain ⟨k, rfl⟩ : ∃ q, k = q + 1 := ⟨k - 1, by omega⟩
    have hp := pow_small i (by omega)
    have e : IntKind.u64.wrap (2 * ((2 ^ i : Nat) : Int)) = ((2 ^ (i + 1) : Nat) : Int) := by
      rw [Nat.pow_succ]
      generalize 2 ^ i = m at hp ⊢
      simp only [IntKind.wrap, IntKind.bits, IntKind.signed]
      simp
      omega
    rw [paymasterref12_Many.l0, if_pos (by omega), e, w64_succ i (by omega), rmany_l n hn d (i + 1) k (by omega) (by omega)]
theorem rmany_is (n : Nat) (hn : n ≤ 10) (k : Nat) (hk : 12 ≤ k) : paymasterref12_Many.f k (n : Int) = some ((2 ^ n : Nat) : Int) := rmany_l n hn n 0 k (by omega) (by omega)
theorem found_free (l : List S28) (a : Int) : (foundT (l.find? (isSlot a))).2.2.2.2.2 = !isFree l a := by
  unfold isFree
  rw [Bool.not_not]
  cases h : l.find? (isSlot a) with
  | none =>
    have := List.find?_eq_none.1 h
    symm
    rw [show (foundT none).2.2.2.2.2 = false from rfl, List.any_eq_false]
    exact this
  | some x =>
    symm
    rw [show (foundT (some x)).2.2.2.2.2 = true from rfl, List.any_eq_true]
    exact ⟨x, List.mem_of_find?_eq_some h, List.find?_some (p := isSlot a) h⟩
theorem rfree_l (l : List S28) (M : Nat) (fr : Int) (hl : l.length ≤ 1000) (hM : 1 ≤ M ∧ M ≤ 1024) (hfr : 0 ≤ fr) : ∀ (d i k : Nat), i + d = M → d + 1100 ≤ k → paymasterref12_Free.l0 k l (M : Int) ((fr % (M : Int) + (i : Int)) % (M : Int)) (i : Int) = some (freeFrom (isFree l) (M : Int) fr d i)
  | 0, i, k, hi, hk => by
    obtain ⟨k, rfl⟩ : ∃ q, k = q + 1 := ⟨k - 1, by omega⟩
    rw [paymasterref12_Free.l0, if_neg (by omega)]; rfl
  | d + 1, i, k, hi, hk => by
    obtain ⟨k, rfl⟩ : ∃ q, k = q + 1 := ⟨k - 1, by omega⟩
    have hM0 : (M : Int) ≠ 0 := by omega
    have n1 := Int.emod_nonneg (fr % (M : Int) + (i : Int)) hM0
    have n2 := Int.emod_lt_of_pos (fr % (M : Int) + (i : Int)) (show (0 : Int) < (M : Int) by omega)
    have ih := rfree_l l M fr hl hM hfr d (i + 1) k (by omega) (by omega)
    rw [paymasterref12_Free.l0, if_pos (by omega), rat_is l _ hl k (by omega), Option.bind_some, found_free, freeFrom]
    cases c : isFree l ((fr % (M : Int) + (i : Int)) % (M : Int)) with
    | true => rw [if_neg (by simp), if_pos rfl]
    | false =>
      rw [if_pos (by simp), if_neg hM0, if_neg (by simp)]
      have e1 : IntKind.u64.wrap ((fr % (M : Int) + (i : Int)) % (M : Int) + 1) = (fr % (M : Int) + (i : Int)) % (M : Int) + 1 := by
        generalize (fr % (M : Int) + (i : Int)) % (M : Int) = N at n1 n2 ⊢
        simp only [IntKind.wrap, IntKind.bits, IntKind.signed]; simp; omega
      have e2 : IntKind.u64.wrap ((i : Int) + 1) = ((i + 1 : Nat) : Int) := by
        simp only [IntKind.wrap, IntKind.bits, IntKind.signed]; simp; omega
      have e3 : Int.tmod ((fr % (M : Int) + (i : Int)) % (M : Int) + 1) (M : Int) = (fr % (M : Int) + ((i + 1 : Nat) : Int)) % (M : Int) := by
        rw [Int.tmod_eq_emod_of_nonneg (by omega), Int.emod_add_emod]; push_cast; rw [Int.add_assoc]
      rw [e1, e2, e3]
      exact ih
theorem rhigh_is (a : Int) : paymasterref12_High.f a = some (decide (0 ≤ a ∧ a ≤ 10)) := by
  unfold paymasterref12_High.f
  by_cases c : a ≥ 0
  · rw [if_pos c]; congr 1; by_cases d : a ≤ 10 <;> simp [c, d]
  · rw [if_neg c]; congr 1; symm; exact decide_eq_false (by omega)
theorem rfree_is (l : List S28) (a1 fr : Int) (hl : l.length ≤ 1000) (hfr : 0 ≤ fr ∧ fr < 18446744073709551616) (hw : ∀ x, x ∈ l → (Lit.int .u64 x.f3).wf = true) (k : Nat) (hk : 3000 ≤ k) : paymasterref12_Free.f k l a1 fr = slots_Free.f l a1 fr := by
  unfold paymasterref12_Free.f slots_Free.f
  rw [rhigh_is, Option.bind_some, if_pos (show l.length ≤ 100000 ∧ (0 ≤ fr ∧ fr < 18446744073709551616) ∧ (∀ x, x ∈ l → (Lit.int .u64 x.f3).wf = true) from ⟨by omega, hfr, hw⟩)]
  by_cases c : 0 ≤ a1 ∧ a1 ≤ 10
  · rw [decide_eq_true c, if_pos rfl, if_pos c]
    obtain ⟨n, rfl⟩ := Int.eq_ofNat_of_zero_le c.1
    have hn : n ≤ 10 := by omega
    have hM := pow_small n hn
    rw [rmany_is n hn k (by omega), Option.bind_some, Int.toNat_natCast]
    generalize 2 ^ n = M at hM ⊢
    rw [if_neg (by omega), Int.tmod_eq_emod_of_nonneg hfr.1]
    have := rfree_l l M fr hl hM hfr.1 M 0 k (by omega) (by omega)
    rw [show (fr % (M : Int) + ((0 : Nat) : Int)) % (M : Int) = fr % (M : Int) from by simp] at this
    exact this
  · rw [decide_eq_false c, if_neg (by simp), if_neg c]
/-! ### May -/
def sameB (x y : S28) : Bool := decide (y.f0 = x.f0) || decide (y.f3 = x.f3)
theorem toList_inj (a b : ByteArray) : a.toList = b.toList ↔ a = b := by
  constructor
  · intro h; rw [ByteArray.toList_eq, ByteArray.toList_eq] at h; exact byteArray_inj h
  · intro h; rw [h]
theorem any_or (p q : S28 → Bool) : ∀ l : List S28, l.any (fun y => p y || q y) = (l.any p || l.any q)
  | [] => rfl
  | x :: l => by rw [List.any_cons, List.any_cons, List.any_cons, any_or p q l]; cases p x <;> cases q x <;> simp
theorem rmay_l1 (l : List S28) (a1 : Int) (i : Nat) (hi : i < l.length) (hl : l.length ≤ 1000) : ∀ (d j k : Nat), j + d = i → d + 1 ≤ k → paymasterref12_May.l1 k l a1 (i : Int) (j : Int) = if ((l.take i).drop j).any (sameB l[i]) = true then some false else paymasterref12_May.l0 (k - (d + 1)) l a1 ((i + 1 : Nat) : Int)
  | 0, j, k, hj, hk => by
    obtain ⟨k, rfl⟩ : ∃ q, k = q + 1 := ⟨k - 1, by omega⟩
    rw [paymasterref12_May.l1, if_neg (by omega), List.drop_eq_nil_of_le (by rw [List.length_take]; omega), if_neg (by simp), w64_succ i (by omega)]
    rfl
  | d + 1, j, k, hj, hk => by
    obtain ⟨k, rfl⟩ : ∃ q, k = q + 1 := ⟨k - 1, by omega⟩
    have hjl : j < l.length := by omega
    have ht : j < (l.take i).length := by rw [List.length_take]; omega
    have ih := rmay_l1 l a1 i hi hl d (j + 1) k (by omega) (by omega)
    rw [paymasterref12_May.l1, if_pos (by omega), if_pos (by omega), if_pos (by omega), if_pos (by omega), if_pos (by omega), rd_is l j hjl, rd_is l i hi, List.drop_eq_getElem_cons ht, List.any_cons, List.getElem_take]
    by_cases c1 : l[j].f0 = l[i].f0
    · rw [if_pos (by rw [c1]), if_pos (by unfold sameB; simp [c1])]
    · rw [if_neg (by rw [toList_inj]; exact c1)]
      by_cases c2 : l[j].f3 = l[i].f3
      · rw [if_pos c2, if_pos (by unfold sameB; simp [c2])]
      · rw [if_neg c2, w64_succ j (by omega), ih, show sameB l[i] l[j] = false from by unfold sameB; simp [c1, c2], Bool.false_or, show k + 1 - (d + 1 + 1) = k - (d + 1) by omega]
theorem rmay_l (l : List S28) (n : Nat) (hn : n ≤ 10) (hl : l.length ≤ 1000) (hs : ∀ x, x ∈ l → x.f0.size ≤ 1000) : ∀ (d i k : Nat), i + d = l.length → d * (l.length + 5) + 1200 ≤ k → paymasterref12_May.l0 k l (n : Int) (i : Int) = some (mayFrom ((2 ^ n : Nat) : Int) l d i)
  | 0, i, k, hi, hk => by
    obtain ⟨k, rfl⟩ : ∃ q, k = q + 1 := ⟨k - 1, by omega⟩
    rw [paymasterref12_May.l0, if_neg (by omega)]; rfl
  | d + 1, i, k, hi, hk => by
    obtain ⟨k, rfl⟩ : ∃ q, k = q + 1 := ⟨k - 1, by omega⟩
    have hlt : i < l.length := by omega
    have hk2 : d * (l.length + 5) + (l.length + 5) + 1200 ≤ k + 1 := by rw [Nat.succ_mul] at hk; exact hk
    rw [paymasterref12_May.l0, if_pos (by omega), if_pos (by omega), rd_is l i hlt, rmayId_is _ k (hs _ (List.getElem_mem hlt)) (by omega), Option.bind_some, mayFrom, okAt, List.getElem?_eq_getElem hlt]
    simp only
    obtain ⟨k, rfl⟩ : ∃ q, k = q + 1 := ⟨k - 1, by omega⟩
    cases c0 : mayIdB l[i].f0 with
    | false => rw [if_neg (by simp), paymasterref12_May.j1, if_pos rfl]; simp
    | true =>
      rw [if_pos rfl, rmany_is n hn _ (by omega), Option.bind_some]
      generalize hM : ((2 ^ n : Nat) : Int) = M
      by_cases c1 : l[i].f3 ≥ M
      · rw [if_pos c1, paymasterref12_May.j1, if_pos rfl, show decide (M ≤ l[i].f3) = true from decide_eq_true c1]; simp
      · rw [if_neg c1, paymasterref12_May.j1, show decide (M ≤ l[i].f3) = false from decide_eq_false c1]
        by_cases c2 : ((l[i].f2).size : Int) > 32
        · rw [if_pos (by simpa using c2), show decide (32 < ((l[i].f2).size : Int)) = true from decide_eq_true c2]; simp
        · rw [if_neg (by simpa using c2), show decide (32 < ((l[i].f2).size : Int)) = false from decide_eq_false c2]
          have h1 := rmay_l1 l (n : Int) i hlt hl i 0 k (by omega) (by omega)
          rw [List.drop_zero] at h1
          have e : (l.take i).any (sameB l[i]) = ((l.take i).any (fun y => decide (y.f0 = l[i].f0)) || (l.take i).any (fun y => decide (y.f3 = l[i].f3))) := by
            exact any_or _ _ _
          rw [show ((0 : Nat) : Int) = 0 from rfl] at h1
          rw [h1, e]
          have ih := rmay_l l n hn hl hs d (i + 1) (k - (i + 1)) (by omega) (by omega)
          cases (l.take i).any (fun y => decide (y.f0 = l[i].f0)) with
          | true => simp
          | false =>
            cases (l.take i).any (fun y => decide (y.f3 = l[i].f3)) with
            | true => simp
            | false =>
              rw [if_neg (by simp)]
              simp only [Bool.not_false, Bool.and_true, Bool.true_and]
              rw [hM] at ih
              exact ih
theorem rmay_is (l : List S28) (a1 : Int) (hl : l.length ≤ 1000) (hs : ∀ x, x ∈ l → x.f0.size ≤ 1000) (hw : ∀ x, x ∈ l → (Lit.int .u64 x.f3).wf = true) (k : Nat) (hk : l.length * (l.length + 5) + 1200 ≤ k) : paymasterref12_May.f k l a1 = slots_May.f l a1 := by
  unfold paymasterref12_May.f slots_May.f
  rw [rhigh_is, Option.bind_some, if_pos (show l.length ≤ 100000 ∧ (∀ x, x ∈ l → x.f0.size ≤ 1000) ∧ (∀ x, x ∈ l → (Lit.int .u64 x.f3).wf = true) from ⟨by omega, hs, hw⟩)]
  by_cases c : 0 ≤ a1 ∧ a1 ≤ 10
  · rw [decide_eq_true c, if_pos rfl, Bool.true_and]
    obtain ⟨n, rfl⟩ := Int.eq_ofNat_of_zero_le c.1
    rw [Int.toNat_natCast]
    exact rmay_l l n (by omega) hl hs l.length 0 k (by omega) hk
  · rw [decide_eq_false c, if_neg (by simp), Bool.false_and]
/-! ### Long, and the whole -/
def longA (x : S28) : Bool := decide (200 < x.f0.size) || decide (200 < x.f2.size)
theorem long_l (l : List S28) (hl : l.length ≤ 1000) : ∀ (d i k : Nat), i + d = l.length → d + 1 ≤ k → paymasterlaw12_Long.l0 k l (i : Int) = some ((l.drop i).any longA)
  | 0, i, k, hi, hk => by
    obtain ⟨k, rfl⟩ : ∃ q, k = q + 1 := ⟨k - 1, by omega⟩
    rw [paymasterlaw12_Long.l0, if_neg (by omega), List.drop_eq_nil_of_le (by omega)]; rfl
  | d + 1, i, k, hi, hk => by
    obtain ⟨k, rfl⟩ : ∃ q, k = q + 1 := ⟨k - 1, by omega⟩
    have hlt : i < l.length := by omega
    rw [paymasterlaw12_Long.l0, if_pos (by omega), if_pos (by omega), rd_is l i hlt, List.drop_eq_getElem_cons hlt, List.any_cons]
    by_cases c1 : ((l[i].f0).size : Int) > 200
    · rw [if_pos c1, show longA l[i] = true from by unfold longA; simp; omega]; rfl
    · by_cases c2 : ((l[i].f2).size : Int) > 200
      · rw [if_neg c1, if_pos c2, show longA l[i] = true from by unfold longA; simp; omega]; rfl
      · rw [if_neg c1, if_neg c2, show longA l[i] = false from by unfold longA; simp; omega, w64_succ i (by omega), long_l l hl d (i + 1) k (by omega) (by omega), Bool.false_or]
theorem bbeq {α : Type} [BEq α] [ReflBEq α] (x : α) : (x == x) = true := BEq.rfl
theorem finds_pure (l0 : List S28) (a1 : Int) (a2 : ByteArray) (a3 : Int) (h3 : 0 ≤ a3 ∧ a3 < 18446744073709551616) (hw : ∀ x, x ∈ l0 → (Lit.int .u64 x.f3).wf = true) : ∃ k, paymasterlaw12_SlotsFinds.f k l0 a1 a2 a3 = some true := by
  obtain ⟨K, hK⟩ : ∃ K : Nat, 50000 ≤ K := ⟨50000, Nat.le_refl _⟩
  refine ⟨K + 1, ?_⟩
  unfold paymasterlaw12_SlotsFinds.f
  have hj : paymasterlaw12_SlotsFinds.j0 (K + 1) l0 a1 a2 a3 true = some true := by rw [paymasterlaw12_SlotsFinds.j0, if_pos rfl]
  unfold paymasterlaw12_Long.f
  by_cases c : (l0.length : Int) > 200
  · rw [if_pos c, Option.bind_some, if_pos rfl, hj]
  rw [if_neg c]
  have hlen : l0.length ≤ 200 := by omega
  have hL := long_l l0 (by omega) l0.length 0 (K + 1) (by omega) (by omega)
  rw [List.drop_zero, show ((0 : Nat) : Int) = 0 from rfl] at hL
  rw [hL, Option.bind_some]
  cases hb : l0.any longA with
  | true => rw [if_pos rfl, hj]
  | false =>
    rw [if_neg (by simp)]
    by_cases c2 : (a2.size : Int) > 200
    · rw [decide_eq_true c2, hj]
    rw [decide_eq_false c2, paymasterlaw12_SlotsFinds.j0, if_neg (by simp)]
    have hs : ∀ x, x ∈ l0 → x.f0.size ≤ 1000 := by
      intro x hx
      have := List.any_eq_false.1 hb x hx
      unfold longA at this
      simp at this
      omega
    have hq : l0.length * (l0.length + 5) ≤ 200 * 205 := Nat.mul_le_mul hlen (by omega)
    rw [rfind_is l0 a2 (by omega) K (by omega), rat_is l0 a3 (by omega) K (by omega), rfree_is l0 a1 a3 (by omega) h3 hw K (by omega), rmay_is l0 a1 (by omega) hs hw K (by omega)]
    rw [show slots_Find.f l0 a2 = some (foundT (l0.find? (isId a2))) from by unfold slots_Find.f; rw [if_pos (by omega)], show slots_At.f l0 a3 = some (foundT (l0.find? (isSlot a3))) from by unfold slots_At.f; rw [if_pos (by omega)]]
    obtain ⟨fr, hfr⟩ : ∃ x, slots_Free.f l0 a1 a3 = some x := by
      unfold slots_Free.f
      rw [if_pos (show l0.length ≤ 100000 ∧ (0 ≤ a3 ∧ a3 < 18446744073709551616) ∧ (∀ x, x ∈ l0 → (Lit.int .u64 x.f3).wf = true) from ⟨by omega, h3, hw⟩)]
      split
      · exact ⟨_, rfl⟩
      · exact ⟨_, rfl⟩
    obtain ⟨my, hmy⟩ : ∃ x, slots_May.f l0 a1 = some x := by
      unfold slots_May.f
      rw [if_pos (show l0.length ≤ 100000 ∧ (∀ x, x ∈ l0 → x.f0.size ≤ 1000) ∧ (∀ x, x ∈ l0 → (Lit.int .u64 x.f3).wf = true) from ⟨by omega, hs, hw⟩)]
      exact ⟨_, rfl⟩
    rw [hfr, hmy]
    generalize foundT (l0.find? (isId a2)) = F
    generalize foundT (l0.find? (isSlot a3)) = G
    simp only [Option.bind_some, slots_Leaf.f, paymasterref12_Leaf.f, bbeq, Bool.and_self, if_true]
end Go.Proofs.YtfijhbfdkcajjaaDoor.Pr
