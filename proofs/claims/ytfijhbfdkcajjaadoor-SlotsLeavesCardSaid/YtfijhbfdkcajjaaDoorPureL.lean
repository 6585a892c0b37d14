/- Plain: the reference's leaves are the program's; SlotsLeaves answers true. -/
import Derived.Test.YtfijhbfdkcajjaaDoorPrx26
import Derived.Test.YtfijhbfdkcajjaaDoorPrx9
import Derived.Test.YtfijhbfdkcajjaaDoorPrx24
import Derived.Test.YtfijhbfdkcajjaaDoorPrx25
import Derived.Test.YtfijhbfdkcajjaaDoorPrx2
import Derived.Test.YtfijhbfdkcajjaaDoorPrx15
import Derived.Test.YtfijhbfdkcajjaaDoorUtf
import Derived.Test.YtfijhbfdkcajjaaDoorMay
import Derived.Test.YtfijhbfdkcajjaaDoorPadMath
namespace Go.Proofs.YtfijhbfdkcajjaaDoor.Pr
open Go.RowKit Go.Proofs.YtfijhbfdkcajjaaDoorW.PrintWords Go.Proofs.YtfijhbfdkcajjaaDoorW.PrintLast Go.Proofs.YtfijhbfdkcajjaaDoorW.PrintMore
set_option linter.unusedVariables false
set_option linter.unusedSimpArgs false

theorem rd_is (l : List S28) (i : Nat) (h : i < l.length) : rd_T28 l (i : Int) = l[i] := by simp [rd_T28, h]
theorem w64_succ (i : Nat) (h : i ≤ 1000000) : wrap64 ((i : Int) + 1) = ((i + 1 : Nat) : Int) := by rw [w64 (by omega) (by omega)]; push_cast; rfl
theorem rat_l (l : List S28) (a : Int) (hl : l.length ≤ 1000) : ∀ (d i k : Nat), i + d = l.length → d + 1 ≤ k → paymasterref12_At.l0 k l a (i : Int) = some (foundT ((l.drop i).find? (isSlot a)))
  | 0, i, k, hi, hk => by
    obtain ⟨k, rfl⟩ : ∃ q, k = q + 1 := ⟨k - 1, by omega⟩
    rw [paymasterref12_At.l0, if_neg (by omega), List.drop_eq_nil_of_le (by omega)]; rfl
  | d + 1, i, k, hi, hk => by
    obtain ⟨k, rfl⟩ : ∃ q, k = q + 1 := ⟨k - 1, by omega⟩
    have hlt : i < l.length := by omega
    rw [paymasterref12_At.l0, if_pos (by omega), if_pos (by omega), rd_is l i hlt, List.drop_eq_getElem_cons hlt, List.find?_cons]
    by_cases c : l[i].f3 = a
    · rw [if_pos c, show isSlot a l[i] = true from by unfold isSlot; rw [c]; simp]; rfl
    · rw [if_neg c, show isSlot a l[i] = false from by unfold isSlot; simpa using c, w64_succ i (by omega), rat_l l a hl d (i + 1) k (by omega) (by omega)]
theorem rat_is (l : List S28) (a : Int) (hl : l.length ≤ 1000) (k : Nat) (hk : l.length + 1 ≤ k) : paymasterref12_At.f k l a = some (foundT (l.find? (isSlot a))) := by
  have := rat_l l a hl l.length 0 k (by omega) hk
  rw [List.drop_zero] at this
  exact this
theorem pow_small (n : Nat) (h : n ≤ 10) : 1 ≤ 2 ^ n ∧ 2 ^ n ≤ 1024 := by
  have a1 : (1 : Nat) ≤ 2 ^ n := Nat.one_le_two_pow
  have a2 : (2 : Nat) ^ n ≤ 2 ^ 10 := Nat.pow_le_pow_right (by omega) h
  have a3 : (2 : Nat) ^ 10 = 1024 := by decide
  omega
theorem rmany_l (n : Nat) (hn : n ≤ 10) : ∀ (d i k : Nat), i + d = n → d + 1 ≤ k → paymasterref12_Many.l0 k (n : Int) ((2 ^ i : Nat) : Int) (i : Int) = some ((2 ^ n : Nat) : Int)
  | 0, i, k, hi, hk => by
    obtain ⟨k, rfl⟩ : ∃ q, k = q + 1 := ⟨k - 1, by omega⟩
    rw [paymasterref12_Many.l0, if_neg (by omega), show i = n by omega]
  | d + 1, i, k, hi, hk => by
    obtain ⟨k, rfl⟩ : ∃ q, k = q + 1 := ⟨k - 1, by omega⟩
    have hp := pow_small i (by omega)
    have e : IntKind.u64.wrap (2 * ((2 ^ i : Nat) : Int)) = ((2 ^ (i + 1) : Nat) : Int) := by
      rw [Nat.pow_succ]
      generalize 2 ^ i = m at hp ⊢
      simp only [IntKind.wrap, IntKind.bits, IntKind.signed]
      simp
      omega
    rw [paymasterref12_Many.l0, if_pos (by omega), e, w64_succ i (by omega), rmany_l n hn d (i + 1) k (by omega) (by omega)]
theorem rmany_is (n : Nat) (hn : n ≤ 10) (k : Nat) (hk : 12 ≤ k) : paymasterref12_Many.f k (n : Int) = some ((2 ^ n : Nat) : Int) := rmany_l n hn n 0 k (by omega) (by omega)
theorem rhigh_is (a : Int) : paymasterref12_High.f a = some (decide (0 ≤ a ∧ a ≤ 10)) := by
  unfold paymasterref12_High.f
  by_cases c : a ≥ 0
  · rw [if_pos c]; congr 1; by_cases d : a ≤ 10 <;> simp [c, d]
  · rw [if_neg c]; congr 1; symm; exact decide_eq_false (by omega)
def sameB (x y : S28) : Bool := decide (y.f0 = x.f0) || decide (y.f3 = x.f3)
theorem toList_inj (a b : ByteArray) : a.toList = b.toList ↔ a = b := by
  constructor
  · intro h; rw [ByteArray.toList_eq, ByteArray.toList_eq] at h; exact byteArray_inj h
  · intro h; rw [h]
theorem any_or (p q : S28 → Bool) : ∀ l : List S28, l.any (fun y => p y || q y) = (l.any p || l.any q)
  | [] => rfl
  | x :: l => by rw [List.any_cons, List.any_cons, List.any_cons, any_or p q l]; cases p x <;> cases q x <;> simp
theorem rmay_l1 (l : List S28) (a1 : Int) (i : Nat) (hi : i < l.length) (hl : l.length ≤ 1000) : ∀ (d j k : Nat), j + d = i → d + 1 ≤ k → paymasterref12_May.l1 k l a1 (i : Int) (j : Int) = if ((l.take i).drop j).any (sameB l[i]) = true then some false else paymasterref12_May.l0 (k - (d + 1)) l a1 ((i + 1 : Nat) : Int)
  | 0, j, k, hj, hk => by
    obtain ⟨k, rfl⟩ : ∃ q, k = q + 1 := ⟨k - 1, by omega⟩
    rw [paymasterref12_May.l1, if_neg (by omega), List.drop_eq_nil_of_le (by rw [List.length_take]; omega), if_neg (by simp), w64_succ i (by omega)]
    rfl
  | d + 1, j, k, hj, hk => by
    obtain ⟨k, rfl⟩ : ∃ q, k = q + 1 := ⟨k - 1, by omega⟩
    have hjl : j < l.length := by omega
    have ht : j < (l.take i).length := by rw [List.length_take]; omega
    have ih := rmay_l1 l a1 i hi hl d (j + 1) k (by omega) (by omega)
    rw [paymasterref12_May.l1, if_pos (by omega), if_pos (by omega), if_pos (by omega), if_pos (by omega), if_pos (by omega), rd_is l j hjl, rd_is l i hi, List.drop_eq_getElem_cons ht, List.any_cons, List.getElem_take]
    by_cases c1 : l[j].f0 = l[i].f0
    · rw [if_pos (by rw [c1]), if_pos (by unfold sameB; simp [c1])]
    · rw [if_neg (by rw [toList_inj]; exact c1)]
      by_cases c2 : l[j].f3 = l[i].f3
      · rw [if_pos c2, if_pos (by unfold sameB; simp [c2])]
      · rw [if_neg c2, w64_succ j (by omega), ih, show sameB l[i] l[j] = false from by unfold sameB; simp [c1, c2], Bool.false_or, show k + 1 - (d + 1 + 1) = k - (d + 1) by omega]
theorem rmay_l (l : List S28) (n : Nat) (hn : n ≤ 10) (hl : l.length ≤ 1000) (hs : ∀ x, x ∈ l → x.f0.size ≤ 1000) : ∀ (d i k : Nat), i + d = l.length → d * (l.length + 5) + 1200 ≤ k → paymasterref12_May.l0 k l (n : Int) (i : Int) = some (mayFrom ((2 ^ n : Nat) : Int) l d i)
  | 0, i, k, hi, hk => by
    obtain ⟨k, rfl⟩ : ∃ q, k = q + 1 := ⟨k - 1, by omega⟩
    rw [paymasterref12_May.l0, if_neg (by omega)]; rfl
  | d + 1, i, k, hi, hk => by
    obtain ⟨k, rfl⟩ : ∃ q, k = q + 1 := ⟨k - 1, by omega⟩
    have hlt : i < l.length := by omega
    have hk2 : d * (l.length + 5) + (l.length + 5) + 1200 ≤ k + 1 := by rw [Nat.succ_mul] at hk; exact hk
    rw [paymasterref12_May.l0, if_pos (by omega), if_pos (by omega), rd_is l i hlt, rmayId_is _ k (hs _ (List.getElem_mem hlt)) (by omega), Option.bind_some, mayFrom, okAt, List.getElem?_eq_getElem hlt]
    simp only
    obtain ⟨k, rfl⟩ : ∃ q, k = q + 1 := ⟨k - 1, by omega⟩
    cases c0 : mayIdB l[i].f0 with
    | false => rw [if_neg (by simp), paymasterref12_May.j1, if_pos rfl]; simp
    | true =>
      rw [if_pos rfl, rmany_is n hn _ (by omega), Option.bind_some]
      generalize hM : ((2 ^ n : Nat) : Int) = M
      by_cases c1 : l[i].f3 ≥ M
      · rw [if_pos c1, paymasterref12_May.j1, if_pos rfl, show decide (M ≤ l[i].f3) = true from decide_eq_true c1]; simp
      · rw [if_neg c1, paymasterref12_May.j1, show decide (M ≤ l[i].f3) = false from decide_eq_false c1]
        by_cases c2 : ((l[i].f2).size : Int) > 32
        · rw [if_pos (by simpa using c2), show decide (32 < ((l[i].f2).size : Int)) = true from decide_eq_true c2]; simp
        · rw [if_neg (by simpa using c2), show decide (32 < ((l[i].f2).size : Int)) = false from decide_eq_false c2]
          have h1 := rmay_l1 l (n : Int) i hlt hl i 0 k (by omega) (by omega)
          rw [List.drop_zero] at h1
          have e : (l.take i).any (sameB l[i]) = ((l.take i).any (fun y => decide (y.f0 = l[i].f0)) || (l.take i).any (fun y => decide (y.f3 = l[i].f3))) := by
            exact any_or _ _ _
          rw [show ((0 : Nat) : Int) = 0 from rfl] at h1
          rw [h1, e]
          have ih := rmay_l l n hn hl hs d (i + 1) (k - (i + 1)) (by omega) (by omega)
          cases (l.take i).any (fun y => decide (y.f0 = l[i].f0)) with
          | true => simp
          | false =>
            cases (l.take i).any (fun y => decide (y.f3 = l[i].f3)) with
            | true => simp
            | false =>
              rw [if_neg (by simp)]
              simp only [Bool.not_false, Bool.and_true, Bool.true_and]
              rw [hM] at ih
              exact ih
theorem rmay_is (l : List S28) (a1 : Int) (hl : l.length ≤ 1000) (hs : ∀ x, x ∈ l → x.f0.size ≤ 1000) (hw : ∀ x, x ∈ l → (Lit.int .u64 x.f3).wf = true) (k : Nat) (hk : l.length * (l.length + 5) + 1200 ≤ k) : paymasterref12_May.f k l a1 = slots_May.f l a1 := by
  unfold paymasterref12_May.f slots_May.f
  rw [rhigh_is, Option.bind_some, if_pos (show l.length ≤ 100000 ∧ (∀ x, x ∈ l → x.f0.size ≤ 1000) ∧ (∀ x, x ∈ l → (Lit.int .u64 x.f3).wf = true) from ⟨by omega, hs, hw⟩)]
  by_cases c : 0 ≤ a1 ∧ a1 ≤ 10
  · rw [decide_eq_true c, if_pos rfl, Bool.true_and]
    obtain ⟨n, rfl⟩ := Int.eq_ofNat_of_zero_le c.1
    rw [Int.toNat_natCast]
    exact rmay_l l n (by omega) hl hs l.length 0 k (by omega) hk
  · rw [decide_eq_false c, if_neg (by simp), Bool.false_and]
def longA (x : S28) : Bool := decide (200 < x.f0.size) || decide (200 < x.f2.size)
theorem long_l (l : List S28) (hl : l.length ≤ 1000) : ∀ (d i k : Nat), i + d = l.length → d + 1 ≤ k → paymasterlaw12_Long.l0 k l (i : Int) = some ((l.drop i).any longA)
  | 0, i, k, hi, hk => by
    obtain ⟨k, rfl⟩ : ∃ q, k = q + 1 := ⟨k - 1, by omega⟩
    rw [paymasterlaw12_Long.l0, if_neg (by omega), List.drop_eq_nil_of_le (by omega)]; rfl
  | d + 1, i, k, hi, hk => by
    obtain ⟨k, rfl⟩ : ∃ q, k = q + 1 := ⟨k - 1, by omega⟩
    have hlt : i < l.length := by omega
    rw [paymasterlaw12_Long.l0, if_pos (by omega), if_pos (by omega), rd_is l i hlt, List.drop_eq_getElem_cons hlt, List.any_cons]
    by_cases c1 : ((l[i].f0).size : Int) > 200
    · rw [if_pos c1, show longA l[i] = true from by unfold longA; simp; omega]; rfl
    · by_cases c2 : ((l[i].f2).size : Int) > 200
      · rw [if_neg c1, if_pos c2, show longA l[i] = true from by unfold longA; simp; omega]; rfl
      · rw [if_neg c1, if_neg c2, show longA l[i] = false from by unfold longA; simp; omega, w64_succ i (by omega), long_l l hl d (i + 1) k (by omega) (by omega), Bool.false_or]
theorem bbeq {α : Type} [BEq α] [ReflBEq α] (x : α) : (x == x) = true := BEq.rfl
/-! ### Leaves -/
def padS (seed : ByteArray) (n : Nat) : S36 := ⟨true, ⟨#[]⟩, Sh.padSaltS seed n, ⟨0, 0⟩⟩
def leafS (x : S28) : S36 := ⟨false, x.f0, x.f2, x.f1⟩
def slotAt (seed : ByteArray) (l : List S28) (n : Nat) : S36 := match l.find? (isSlot (n : Int)) with
  | some x => leafS x
  | none => padS seed n
theorem shl_pow : ∀ n : Fin 11, shl .i64 1 ((n.val : Nat) : Int) = ((2 ^ n.val : Nat) : Int) := by decide
theorem set_fill {α : Type} (f : Nat → α) (z : α) (M i : Nat) (h : i < M) : ((List.range i).map f ++ List.replicate (M - i) z).set i (f i) = (List.range (i + 1)).map f ++ List.replicate (M - (i + 1)) z := by
  have hl : ((List.range i).map f).length = i := by simp
  rw [List.set_append_right _ _ (by omega), hl, Nat.sub_self, show M - i = (M - (i + 1)) + 1 by omega, List.replicate_succ, List.set_cons_zero, List.range_succ, List.map_append, List.append_assoc]
  rfl
theorem pads_l0 (seed : ByteArray) (hs : seed.size ≤ 1000000) (l : List S28) (M : Nat) (hM : M ≤ 1024) (m : Nat) (d : Nat) : ∀ i, i + d = M →
    slots_Leaves.l0 (m + d + 1) seed l ((List.range i).map (padS seed) ++ List.replicate (M - i) z36) (M : Int) (i : Int) = slots_Leaves.l1 m ((List.range M).map (padS seed)) l (l.length : Int) 0 := by
  induction d with
  | zero =>
    intro i hi
    obtain rfl : i = M := by omega
    rw [slots_Leaves.l0, if_neg (by omega), Nat.sub_self, List.replicate_zero, List.append_nil]
  | succ d ih =>
    intro i hi
    have hlt : i < M := by omega
    have e1 : IntKind.u64.wrap (i : Int) = (i : Int) := IntWalk.u64_in _ (by omega)
    have e2 : wrap64 ((i : Int) + 1) = ((i + 1 : Nat) : Int) := w64_succ i (by omega)
    have hl : (((List.range i).map (padS seed) ++ List.replicate (M - i) z36).length : Int) = (M : Int) := by
      rw [List.length_append, List.length_map, List.length_range, List.length_replicate]; omega
    rw [show m + (d + 1) + 1 = (m + d + 1) + 1 by omega, slots_Leaves.l0, if_pos (by omega), e1]
    unfold tag_Pad.f
    rw [if_pos ⟨by omega, by omega, by omega⟩, Option.bind_some, if_pos (by omega), hl, if_pos (by omega), e2, Int.toNat_natCast, ← ih (i + 1) (by omega), ← set_fill (padS seed) z36 M i hlt]
    rfl
theorem slot_set (seed : ByteArray) (l : List S28) (M j : Nat) (hj : j < l.length) (h0 : 0 ≤ (l[j]).f3) (hM : (l[j]).f3 < (M : Int)) (hu : ∀ y, y ∈ l.take j → y.f3 ≠ (l[j]).f3) :
    ((List.range M).map (slotAt seed (l.take j))).set ((l[j]).f3).toNat (leafS l[j]) = (List.range M).map (slotAt seed (l.take (j + 1))) := by
  apply List.ext_getElem
  · simp
  · intro n h1 h2
    have hn : n < M := by simpa using h2
    rw [List.getElem_set, List.getElem_map, List.getElem_map, List.getElem_range]
    unfold slotAt
    rw [List.take_succ_eq_append_getElem hj, List.find?_append]
    by_cases c : ((l[j]).f3).toNat = n
    · rw [if_pos c]
      have hs : isSlot (n : Int) l[j] = true := by unfold isSlot; simp; omega
      have hnone : (l.take j).find? (isSlot (n : Int)) = none := by
        rw [List.find?_eq_none]
        intro y hy
        have := hu y hy
        unfold isSlot
        simp
        omega
      rw [hnone, Option.none_or, List.find?_cons_of_pos hs]
    · rw [if_neg c]
      have hs : ¬ (isSlot (n : Int) l[j] = true) := by unfold isSlot; simp; omega
      rw [List.find?_cons_of_neg hs, List.find?_nil, Option.or_none]
theorem leaf_l1 (seed : ByteArray) (l : List S28) (M : Nat) (hM : M ≤ 1024) (hl : l.length ≤ 1000) (h0 : ∀ x, x ∈ l → 0 ≤ x.f3) (hm : ∀ j (hj : j < l.length), (l[j]).f3 < (M : Int) ∧ ∀ y, y ∈ l.take j → y.f3 ≠ (l[j]).f3) (m d : Nat) : ∀ j, j + d = l.length →
    slots_Leaves.l1 (m + d + 1) ((List.range M).map (slotAt seed (l.take j))) l (l.length : Int) (j : Int) = some ((List.range M).map (slotAt seed l), 0) := by
  induction d with
  | zero =>
    intro j hj
    rw [slots_Leaves.l1, if_neg (by omega), List.take_of_length_le (by omega)]
  | succ d ih =>
    intro j hj
    have hlt : j < l.length := by omega
    obtain ⟨h1, h2⟩ := hm j hlt
    have h3 := h0 _ (List.getElem_mem hlt)
    have hL : (((List.range M).map (slotAt seed (l.take j))).length : Int) = (M : Int) := by simp
    rw [show m + (d + 1) + 1 = (m + d + 1) + 1 by omega, slots_Leaves.l1, if_pos (by omega), if_pos (by omega), if_pos (by omega), rd_is l j hlt, slots_Leaf.f, Option.bind_some, if_pos h3, hL, if_pos h1, w64_succ j (by omega), ← ih (j + 1) (by omega), ← slot_set seed l M j hlt h3 h1 h2]
    rfl
theorem may_all (M : Int) (l : List S28) : ∀ (d i : Nat), mayFrom M l d i = true → ∀ j, i ≤ j → j < i + d → okAt M l j = true
  | 0, i, h, j, h1, h2 => by omega
  | d + 1, i, h, j, h1, h2 => by
    rw [mayFrom, Bool.and_eq_true] at h
    rcases Nat.eq_or_lt_of_le h1 with rfl | h3
    · exact h.1
    · exact may_all M l d (i + 1) h.2 j h3 (by omega)
theorem ok_slot (M : Int) (l : List S28) (j : Nat) (hj : j < l.length) (h : okAt M l j = true) : (l[j]).f3 < M ∧ ∀ y, y ∈ l.take j → y.f3 ≠ (l[j]).f3 := by
  unfold okAt at h
  rw [List.getElem?_eq_getElem hj] at h
  simp only [Bool.and_eq_true, Bool.not_eq_true', decide_eq_false_iff_not, List.any_eq_false, decide_eq_true_eq] at h
  exact ⟨by omega, h.2.2.2.2⟩
theorem slots_is (seed : ByteArray) (hs : seed.size ≤ 64) (n : Nat) (hn : n ≤ 10) (l : List S28) (hl : l.length ≤ 1000) (h0 : ∀ x, x ∈ l → 0 ≤ x.f3) (hm : mayFrom ((2 ^ n : Nat) : Int) l l.length 0 = true) (hmay : slots_May.f l (n : Int) = some true) (k : Nat) (hk : 3000 ≤ k) :
    slots_Leaves.f k seed (n : Int) l = some ((List.range (2 ^ n)).map (slotAt seed l), 0) := by
  have hp := pow_small n hn
  have hsh := shl_pow ⟨n, by omega⟩
  have hsh : shl .i64 1 (n : Int) = ((2 ^ n : Nat) : Int) := hsh
  have hhi : slots_high.f (n : Int) = some true := by unfold slots_high.f; rw [if_pos (by omega)]; congr 1; exact decide_eq_true (by omega)
  unfold slots_Leaves.f
  have hall := may_all _ _ _ _ hm
  generalize 2 ^ n = M at hp hsh hm hall ⊢
  rw [hhi, Option.bind_some, if_pos rfl, if_neg (by omega), hmay, Option.bind_some, if_pos rfl, if_pos (by omega), hsh, if_pos (by omega), Int.toNat_natCast, if_pos (by omega), Option.bind_some, List.length_replicate]
  obtain ⟨m, rfl⟩ : ∃ m, k = (m + l.length + 1) + M + 1 := ⟨k - (l.length + 1 + M + 1), by omega⟩
  have h1 := pads_l0 seed (by omega) l M hp.2 (m + l.length + 1) M 0 (by omega)
  rw [List.range_zero, List.map_nil, List.nil_append, Nat.sub_zero] at h1
  refine h1.trans ?_
  have h2 := leaf_l1 seed l M hp.2 hl h0 (fun j hj => ok_slot _ _ j hj (hall j (by omega) (by omega))) m l.length 0 (by omega)
  rw [List.take_zero] at h2
  exact h2
theorem leaves_l0 (seed : ByteArray) (hs : seed.size ≤ 64) (n : Nat) (hn : n ≤ 10) (l : List S28) (hl : l.length ≤ 1000) (d : Nat) : ∀ (i k : Nat), i + d = 2 ^ n → d + 1500 ≤ k →
    paymasterref12_Leaves.l0 k seed (n : Int) l ((List.range i).map (slotAt seed l)) (i : Int) = some ((List.range (2 ^ n)).map (slotAt seed l), 0) := by
  have hp := pow_small n hn
  induction d with
  | zero =>
    intro i k hi hk
    obtain ⟨k, rfl⟩ : ∃ q, k = q + 1 := ⟨k - 1, by omega⟩
    rw [paymasterref12_Leaves.l0, rmany_is n hn k (by omega), Option.bind_some, if_neg (by omega), show i = 2 ^ n by omega]
  | succ d ih =>
    intro i k hi hk
    obtain ⟨k, rfl⟩ : ∃ q, k = q + 1 := ⟨k - 1, by omega⟩
    have e1 : IntKind.u64.wrap ((i : Int) + 1) = ((i + 1 : Nat) : Int) := by rw [IntWalk.u64_in _ (by omega)]; omega
    have hlen : ((List.range i).map (slotAt seed l)).length < 2513169434916 := by rw [List.length_map, List.length_range]; omega
    have h1 := ih (i + 1) k (by omega) (by omega)
    rw [List.range_succ, List.map_append] at h1
    rw [paymasterref12_Leaves.l0, rmany_is n hn k (by omega), Option.bind_some, if_pos (by omega), rat_is l _ hl k (by omega), Option.bind_some]
    cases hf : l.find? (isSlot (i : Int)) with
    | some x =>
      rw [show (foundT (some x)).2.2.2.2.2 = true from rfl, if_pos rfl]
      unfold paymasterref12_Leaf.f
      rw [Option.bind_some, if_pos hlen, e1, ← h1]
      congr 2
      show [_] = [slotAt seed l i]
      unfold slotAt
      rw [hf]
      rfl
    | none =>
      rw [show (foundT none).2.2.2.2.2 = false from rfl, if_neg (by simp), rpad seed (by omega) i (by omega) k (by omega)]
      unfold tag_Pad.f
      rw [if_pos ⟨by omega, by omega, by omega⟩, Option.bind_some, if_pos hlen, e1, ← h1]
      congr 2
      show [_] = [slotAt seed l i]
      unfold slotAt
      rw [hf]
      rfl
theorem rd36_is (l : List S36) (i : Nat) (h : i < l.length) : rd_T36 l (i : Int) = l[i] := by simp [rd_T36, h]
theorem same_l0 (L : List S36) (hl : L.length ≤ 100000) (d : Nat) : ∀ (i k : Nat), i + d = L.length → d + 1 ≤ k → paymasterref12_SameLeaves.l0 k L L (i : Int) = some true := by
  induction d with
  | zero =>
    intro i k hi hk
    obtain ⟨k, rfl⟩ : ∃ q, k = q + 1 := ⟨k - 1, by omega⟩
    rw [paymasterref12_SameLeaves.l0, if_neg (by omega)]
  | succ d ih =>
    intro i k hi hk
    obtain ⟨k, rfl⟩ : ∃ q, k = q + 1 := ⟨k - 1, by omega⟩
    rw [paymasterref12_SameLeaves.l0, if_pos (by omega), if_pos (by omega), if_pos (by omega), w64_succ i (by omega), ih (i + 1) k (by omega) (by omega)]
    simp
theorem same_is (L : List S36) (hl : L.length ≤ 100000) (k : Nat) (hk : L.length + 1 ≤ k) : paymasterref12_SameLeaves.f k L L = some true := by
  unfold paymasterref12_SameLeaves.f
  rw [if_pos rfl]
  exact same_l0 L hl L.length 0 k (by omega) hk
theorem both_is (seed : ByteArray) (a1 : Int) (l : List S28) (hl : l.length ≤ 200) (hsz : ∀ x, x ∈ l → x.f0.size ≤ 1000) (hw : ∀ x, x ∈ l → (Lit.int .u64 x.f3).wf = true) (k : Nat) (hk : 50000 ≤ k) :
    ∃ r, r.1.length ≤ 100000 ∧ slots_Leaves.f k seed a1 l = some r ∧ paymasterref12_Leaves.f k seed a1 l = some r := by
  have hq : l.length * (l.length + 5) ≤ 200 * 205 := Nat.mul_le_mul hl (by omega)
  have hmy := rmay_is l a1 (by omega) hsz hw k (by omega)
  have hhi : slots_high.f a1 = some (decide (0 ≤ a1 ∧ a1 ≤ 10)) := by
    unfold slots_high.f
    by_cases c : a1 ≥ 0
    · rw [if_pos c]; congr 1; by_cases d : a1 ≤ 10 <;> simp [c, d]
    · rw [if_neg c]; congr 1; symm; exact decide_eq_false (by omega)
  by_cases c : 0 ≤ a1 ∧ a1 ≤ 10
  · rw [decide_eq_true c] at hhi
    have hr := rhigh_is a1
    rw [decide_eq_true c] at hr
    by_cases cs : (seed.size : Int) > 64
    · refine ⟨([], 3), by simp, ?_, ?_⟩
      · unfold slots_Leaves.f; rw [hhi, Option.bind_some, if_pos rfl, if_pos cs]
      · unfold paymasterref12_Leaves.f; rw [hr, Option.bind_some, if_pos rfl, if_pos cs]
    · cases hm : slots_May.f l a1 with
      | none =>
        unfold slots_May.f at hm
        rw [if_pos (show l.length ≤ 100000 ∧ (∀ x, x ∈ l → x.f0.size ≤ 1000) ∧ (∀ x, x ∈ l → (Lit.int .u64 x.f3).wf = true) from ⟨by omega, hsz, hw⟩)] at hm
        cases hm
      | some b =>
        rw [hm] at hmy
        cases b with
        | false =>
          refine ⟨([], 2), by simp, ?_, ?_⟩
          · unfold slots_Leaves.f; rw [hhi, Option.bind_some, if_pos rfl, if_neg cs, hm, Option.bind_some, if_neg (by simp)]
          · unfold paymasterref12_Leaves.f; rw [hr, Option.bind_some, if_pos rfl, if_neg cs, hmy, Option.bind_some, if_neg (by simp)]
        | true =>
          obtain ⟨n, rfl⟩ := Int.eq_ofNat_of_zero_le c.1
          have hn : n ≤ 10 := by omega
          have hp := pow_small n hn
          have hmf : mayFrom ((2 ^ n : Nat) : Int) l l.length 0 = true := by
            have h2 := hm
            unfold slots_May.f at h2
            rw [if_pos (show l.length ≤ 100000 ∧ (∀ x, x ∈ l → x.f0.size ≤ 1000) ∧ (∀ x, x ∈ l → (Lit.int .u64 x.f3).wf = true) from ⟨by omega, hsz, hw⟩), decide_eq_true c, Bool.true_and, Int.toNat_natCast] at h2
            exact Option.some.inj h2
          have h0 : ∀ x, x ∈ l → 0 ≤ x.f3 := fun x hx => by
            have := hw x hx
            simp [Lit.wf, IntKind.min, IntKind.max, IntKind.bits, IntKind.signed] at this
            omega
          refine ⟨((List.range (2 ^ n)).map (slotAt seed l), 0), by simp; omega, slots_is seed (by omega) n hn l (by omega) h0 hmf hm k (by omega), ?_⟩
          unfold paymasterref12_Leaves.f
          rw [hr, Option.bind_some, if_pos rfl, if_neg cs, hmy, Option.bind_some, if_pos rfl]
          exact leaves_l0 seed (by omega) n hn l (by omega) (2 ^ n) 0 k (by omega) (by omega)
  · rw [decide_eq_false c] at hhi
    have hr := rhigh_is a1
    rw [decide_eq_false c] at hr
    refine ⟨([], 120), by simp, ?_, ?_⟩
    · unfold slots_Leaves.f; rw [hhi, Option.bind_some, if_neg (by simp)]
    · unfold paymasterref12_Leaves.f; rw [hr, Option.bind_some, if_neg (by simp)]
theorem leaves_pure (a0 : ByteArray) (a1 : Int) (l : List S28) (hw : ∀ x, x ∈ l → (Lit.int .u64 x.f3).wf = true) : ∃ k, paymasterlaw12_SlotsLeaves.f k a0 a1 l = some true := by
  obtain ⟨K, hK⟩ : ∃ K : Nat, 200000 ≤ K := ⟨200000, Nat.le_refl _⟩
  refine ⟨K + 1, ?_⟩
  unfold paymasterlaw12_SlotsLeaves.f
  have hj : paymasterlaw12_SlotsLeaves.j0 (K + 1) a0 a1 l true = some true := by rw [paymasterlaw12_SlotsLeaves.j0, if_pos rfl]
  by_cases c : (a0.size : Int) > 200
  · rw [if_pos c, hj]
  rw [if_neg c]
  unfold paymasterlaw12_Long.f
  by_cases c2 : (l.length : Int) > 200
  · rw [if_pos c2, Option.bind_some, if_pos rfl, hj]
  rw [if_neg c2]
  have hlen : l.length ≤ 200 := by omega
  have hL := long_l l (by omega) l.length 0 (K + 1) (by omega) (by omega)
  rw [List.drop_zero, show ((0 : Nat) : Int) = 0 from rfl] at hL
  rw [hL, Option.bind_some]
  cases hb : l.any longA with
  | true => rw [if_pos rfl, hj]
  | false =>
    rw [if_neg (by simp)]
    have hs : ∀ x, x ∈ l → x.f0.size ≤ 1000 := by
      intro x hx
      have := List.any_eq_false.1 hb x hx
      unfold longA at this
      simp at this
      omega
    obtain ⟨r, hr0, hr1, hr2⟩ := both_is a0 a1 l hlen hs hw K (by omega)
    have hj2 : paymasterlaw12_SlotsLeaves.j0 (K + 1) a0 a1 l false = some true := by
      rw [paymasterlaw12_SlotsLeaves.j0, if_neg (by simp), hr1, Option.bind_some, hr2, Option.bind_some, same_is r.1 hr0 K (by omega), Option.bind_some, if_pos rfl]
      simp
    by_cases c6 : a1 > 6
    · rw [if_pos c6]
      by_cases c10 : a1 ≤ 10
      · rw [decide_eq_true c10, hj]
      · rw [decide_eq_false c10, hj2]
    · rw [if_neg c6, hj2]
end Go.Proofs.YtfijhbfdkcajjaaDoor.Pr
