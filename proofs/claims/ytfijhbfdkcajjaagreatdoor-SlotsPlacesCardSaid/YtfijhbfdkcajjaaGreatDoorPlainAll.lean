/- Plain: what the reference computes is what the program computes; SlotsPlaces answers true. -/
import Derived.Test.YtfijhbfdkcajjaaGreatDoorMacAll
import Derived.Test.YtfijhbfdkcajjaaGreatDoorSmall
import Derived.Test.YtfijhbfdkcajjaaGreatDoorRefSha
import Derived.Test.YtfijhbfdkcajjaaGreatDoorSortKey
import Derived.Test.YtfijhbfdkcajjaaGreatDoorPlaceF
import Derived.Test.YtfijhbfdkcajjaaGreatDoorPrx31
import Derived.Test.YtfijhbfdkcajjaaGreatDoorPrx33
/- Plain: the reference's salt and first slot are the program's. -/
namespace Go.Proofs.YtfijhbfdkcajjaaGreatDoor.Pr
open Go.RowKit Go.Proofs.YtfijhbfdkcajjaaGreatDoorW.PrintWords Go.Proofs.YtfijhbfdkcajjaaGreatDoorW.PrintLast Go.Proofs.YtfijhbfdkcajjaaGreatDoorW.PrintMore
set_option linter.unusedVariables false
set_option linter.unusedSimpArgs false
open Sh
theorem nat_tmod (a b : Nat) : Int.tmod (a : Int) (b : Int) = ((a % b : Nat) : Int) := by rw [Int.tmod_eq_emod_of_nonneg (Int.natCast_nonneg _)]; omega
theorem nat_tdiv (a b : Nat) : Int.tdiv (a : Int) (b : Int) = ((a / b : Nat) : Int) := by rw [Int.tdiv_eq_ediv_of_nonneg (Int.natCast_nonneg _)]; omega
theorem wrap64_s (j : Nat) (h : j ≤ 1000000) : wrap64 ((j : Int) + 1) = ((j + 1 : Nat) : Int) := by unfold wrap64; omega
/-! ### with -/
theorem bitwise_lt (x c : Nat) : ∀ k, bitwise x c k < 2 ^ k
  | 0 => by rw [bitwise]; decide
  | k + 1 => by
    have := bitwise_lt x c k
    rw [bitwise, Nat.pow_succ]
    split <;> omega
theorem with_l1 (s : ByteArray) (c : Nat) (hc : c < 256) (out : List Int) (ho : out.length ≤ 100000) (i m : Nat) (hi : i < s.size) (hi2 : i ≤ 100000) (d : Nat) : ∀ j, j + d = 8 →
    paymasterref06_with.l1 (m + d + 1) s (c : Int) out (i : Int) ((bitwise (s[i]).toNat c j : Nat) : Int) ((2 ^ j % 256 : Nat) : Int) (j : Int) = paymasterref06_with.l0 m s (c : Int) (out ++ [((bitwise (s[i]).toNat c 8 : Nat) : Int)]) ((i + 1 : Nat) : Int) := by
  induction d with
  | zero =>
    intro j hj
    obtain rfl : j = 8 := by omega
    rw [paymasterref06_with.l1, if_neg (by omega), if_pos (by omega), wrap64_s i (by omega)]
  | succ d ih =>
    intro j hj
    have hj8 : j < 8 := by omega
    have hp : 2 ^ j ≤ 128 ∧ 1 ≤ 2 ^ j := by
      match j, hj8 with
      | 0, _ => decide
      | 1, _ => decide
      | 2, _ => decide
      | 3, _ => decide
      | 4, _ => decide
      | 5, _ => decide
      | 6, _ => decide
      | 7, _ => decide
    have h := ih (j + 1) (by omega)
    have hb : bt s (i : Int) = ((s[i]).toNat : Int) := (Sh.bt_at s i hi).symm
    have hx : (s[i]).toNat < 256 := (s[i]).toNat_lt
    have hlt := bitwise_lt (s[i]).toNat c j
    have hps : 2 ^ (j + 1) = 2 * 2 ^ j := by rw [Nat.pow_succ]; omega
    rw [show m + (d + 1) + 1 = (m + d + 1) + 1 by omega, paymasterref06_with.l1, if_pos (by omega), if_pos (by omega), if_pos (by omega), hb]
    rw [bitwise, hps] at h
    generalize (s[i]).toNat = x at hx hlt h ⊢
    rw [show 2 ^ j % 256 = 2 ^ j by omega] at ⊢
    generalize bitwise x c 8 = B8 at h ⊢
    generalize bitwise x c j = B at hlt h ⊢
    generalize 2 ^ j = P at hp hlt h ⊢
    have hdx : x / P ≤ x := Nat.div_le_self _ _
    have hdc : c / P ≤ c := Nat.div_le_self _ _
    rw [if_neg (by omega), nat_tdiv, nat_tdiv, wrap64_s j (by omega)]
    generalize hX : x / P = X at hdx h ⊢
    generalize hC : c / P = C at hdc h ⊢
    have e1 : ((P : Int) * 2) % 256 = ((2 * P % 256 : Nat) : Int) := by omega
    rw [e1]
    by_cases cc : X % 2 = C % 2
    · rw [if_pos cc] at h
      rw [if_pos (by omega)]
      exact h
    · rw [if_neg cc] at h
      have e2 : ((B : Int) + (P : Int)) % 256 = ((B + P : Nat) : Int) := by omega
      rw [if_neg (by omega), e2]
      exact h
theorem with_l0 (s : ByteArray) (c : UInt8) (hc : c = 92 ∨ c = 54) (hs : s.size ≤ 100000) (d : Nat) : ∀ (i k : Nat), i + d = s.size → 10 * d + 1 ≤ k →
    paymasterref06_with.l0 k s (c.toNat : Int) ((s.data.toList.take i).map fun b => (((b ^^^ c).toNat : Nat) : Int)) (i : Int) = some (xorB c s) := by
  have hlen : s.data.toList.length = s.size := rfl
  induction d with
  | zero =>
    intro i k hi hk
    obtain ⟨k, rfl⟩ : ∃ q, k = q + 1 := ⟨k - 1, by omega⟩
    obtain rfl : i = s.size := by omega
    rw [paymasterref06_with.l0, if_neg (by omega), List.take_of_length_le (by omega)]
    unfold strOfNums xorB xorL
    rw [List.map_map]
    congr 3
    apply List.map_congr_left
    intro b _
    simp
  | succ d ih =>
    intro i k hi hk
    obtain ⟨k, rfl⟩ : ∃ q, k = q + 8 + 1 + 1 := ⟨k - 10, by omega⟩
    have hlt : i < s.size := by omega
    have hci : c.toNat < 256 := c.toNat_lt
    rw [paymasterref06_with.l0, if_pos (by omega)]
    have h1 := with_l1 s c.toNat hci ((s.data.toList.take i).map fun b => (((b ^^^ c).toNat : Nat) : Int)) (by rw [List.length_map, List.length_take]; omega) i k hlt (by omega) 8 0 (by omega)
    refine h1.trans ?_
    have e : (s.data.toList.take (i + 1)).map (fun b => (((b ^^^ c).toNat : Nat) : Int)) = (s.data.toList.take i).map (fun b => (((b ^^^ c).toNat : Nat) : Int)) ++ [((bitwise (s[i]).toNat c.toNat 8 : Nat) : Int)] := by
      rw [List.take_succ_eq_append_getElem (by omega), List.map_append, bitwise_is _ _ hc]
      rfl
    rw [← e]
    exact ih (i + 1) k (by omega) (by omega)
theorem rwith (s : ByteArray) (c : UInt8) (hc : c = 92 ∨ c = 54) (hs : s.size ≤ 100000) (k : Nat) (hk : 10 * s.size + 1 ≤ k) : paymasterref06_with.f k s (c.toNat : Int) = some (xorB c s) :=
  with_l0 s c hc hs s.size 0 k (by omega) hk
theorem rsum (key t : ByteArray) (hk : key.size ≤ 1000000) (ht : t.size ≤ 1000000) (k : Nat) (h : 1000 ≤ k) : paymasterref06_Sum.f k key t = some (macOf key t) := by
  unfold paymasterref06_Sum.f paymasterref06_Block.f
  have hb := blockOf_size key
  rw [if_pos (by omega), Option.bind_some]
  have w1 := rwith (blockOf key) 92 (.inl rfl) (by omega) k (by omega)
  have w2 := rwith (blockOf key) 54 (.inr rfl) (by omega) k (by omega)
  have e92 : (((92 : UInt8).toNat : Nat) : Int) = 92 := rfl
  have e54 : (((54 : UInt8).toNat : Nat) : Int) = 54 := rfl
  rw [e92] at w1
  rw [e54] at w2
  have z1 := xorB_size 92 (blockOf key)
  have z2 := xorB_size 54 (blockOf key)
  have z3 := shaSum_size (xorB 54 (blockOf key) ++ t)
  rw [w1, Option.bind_some, w2, Option.bind_some, if_pos (by omega)]
  unfold paymasterref05_Sum.f
  rw [if_pos (by rw [ByteArray.size_append]; omega), Option.bind_some, if_pos (by omega), if_pos (by rw [ByteArray.size_append]; omega), Option.bind_some, ← macOf_sums]
theorem rfirst (key t : ByteArray) (hk : key.size ≤ 1000000) (ht : t.size ≤ 1000000) (k : Nat) (h : 1000 ≤ k) : paymasterref06_First.f k key t 16 = some ((macOf key t).extract 0 16) := by
  unfold paymasterref06_First.f
  have hz := macOf_size key t
  rw [rsum key t hk ht k h, Option.bind_some, if_neg (by decide), if_neg (by decide), if_pos (by decide), if_pos (by omega)]
  rfl
theorem rnum_l0 (m : ByteArray) (hm : 8 ≤ m.size) (hs : m.size ≤ 1000) : ∀ (d i k : Nat), i + d = 8 → d + 1 ≤ k → paymasterref06_Number.l0 k m ((numL (m.data.toList.take i) : Nat) : Int) (i : Int) = some ((numL (m.data.toList.take 8) : Nat) : Int) := by
  have hlen : m.data.toList.length = m.size := rfl
  intro d
  induction d with
  | zero =>
    intro i k hi hk
    obtain ⟨k, rfl⟩ : ∃ q, k = q + 1 := ⟨k - 1, by omega⟩
    obtain rfl : i = 8 := by omega
    rw [paymasterref06_Number.l0, if_neg (by omega)]
  | succ d ih =>
    intro i k hi hk
    obtain ⟨k, rfl⟩ : ∃ q, k = q + 1 := ⟨k - 1, by omega⟩
    have hlt : i < m.size := by omega
    have hb : bt m (i : Int) = ((m[i]).toNat : Int) := (Sh.bt_at m i hlt).symm
    have hx : (m[i]).toNat < 256 := (m[i]).toNat_lt
    have hn := numL_lt i (m.data.toList.take i) (by rw [List.length_take]; omega)
    have hp : 256 ^ i ≤ 72057594037927936 := by
      match i, (show i ≤ 7 by omega) with
      | 0, _ => decide
      | 1, _ => decide
      | 2, _ => decide
      | 3, _ => decide
      | 4, _ => decide
      | 5, _ => decide
      | 6, _ => decide
      | 7, _ => decide
    have ih := ih (i + 1) k (by omega) (by omega)
    rw [List.take_succ_eq_append_getElem (by omega), numL_snoc, show m.data.toList[i] = m[i] from rfl] at ih
    rw [paymasterref06_Number.l0, if_pos (by omega), if_pos (by omega), if_pos (by omega), hb, wrap64_s i (by omega)]
    generalize numL (m.data.toList.take i) = n at hn ih ⊢
    generalize (m[i]).toNat = x at hx ih ⊢
    generalize 256 ^ i = p at hn hp
    rw [IntWalk.u64_in (256 * (n : Int)) (by omega), IntWalk.u64_in (x : Int) (by omega), IntWalk.u64_in _ (by omega), show (256 * (n : Int) + (x : Int)) = ((n * 256 + x : Nat) : Int) by omega]
    exact ih
theorem rnum (key t : ByteArray) (hk : key.size ≤ 1000000) (ht : t.size ≤ 1000000) (k : Nat) (h : 1000 ≤ k) : paymasterref06_Number.f k key t = some ((numOf key t : Nat) : Int) := by
  unfold paymasterref06_Number.f
  have hz := macOf_size key t
  rw [rsum key t hk ht k h, Option.bind_some]
  have h1 := rnum_l0 (macOf key t) (by omega) (by omega) 8 0 k (by omega) (by omega)
  rw [List.take_zero] at h1
  refine Eq.trans h1 ?_
  unfold numOf
  congr 3
  try rw [ByteArray.data_extract, Array.toList_extract, List.extract_eq_take_drop, List.drop_zero]
theorem rfirst_l0 (key id : ByteArray) (hk : key.size ≤ 1000000) (ht : id.size ≤ 100000) (n : Nat) (hn : n ≤ 10) : ∀ (d i k : Nat), i + d = n → d + 1001 ≤ k → paymasterref07_First.l0 k key id (n : Int) ((2 ^ i : Nat) : Int) (i : Int) = some ((numOf key (one1 5 ++ id) % 2 ^ n : Nat) : Int) := by
  have pw : ∀ j, j ≤ 10 → 1 ≤ 2 ^ j ∧ 2 ^ j ≤ 1024 := fun j hj => by
    have a1 : (1 : Nat) ≤ 2 ^ j := Nat.one_le_two_pow
    have a2 : (2 : Nat) ^ j ≤ 2 ^ 10 := Nat.pow_le_pow_right (by omega) hj
    have a3 : (2 : Nat) ^ 10 = 1024 := by decide
    omega
  intro d
  induction d with
  | zero =>
    intro i k hi hk2
    obtain ⟨k, rfl⟩ : ∃ q, k = q + 1 := ⟨k - 1, by omega⟩
    obtain rfl : i = n := by omega
    have hp := pw i hn
    have hz : (one1 5 ++ id).size ≤ 1000000 := by rw [ByteArray.size_append]; show (⟨#[5]⟩ : ByteArray).size + id.size ≤ _; have : (⟨#[5]⟩ : ByteArray).size = 1 := rfl; omega
    rw [paymasterref07_First.l0, if_neg (by omega), if_pos (by omega)]
    have h1 := rnum key (one1 5 ++ id) hk hz k (by omega)
    rw [show (⟨#[5]⟩ : ByteArray) ++ id = one1 5 ++ id from rfl, h1, Option.bind_some, if_neg (by omega), nat_tmod]
  | succ d ih =>
    intro i k hi hk2
    obtain ⟨k, rfl⟩ : ∃ q, k = q + 1 := ⟨k - 1, by omega⟩
    have hp := pw i (by omega)
    have ih := ih (i + 1) k (by omega) (by omega)
    rw [Nat.pow_succ] at ih
    rw [paymasterref07_First.l0, if_pos (by omega), wrap64_s i (by omega)]
    generalize 2 ^ i = p at hp ih ⊢
    rw [IntWalk.u64_in _ (by omega), show (2 * (p : Int)) = ((p * 2 : Nat) : Int) by omega]
    exact ih
theorem rfirst7 (key id : ByteArray) (hk : key.size ≤ 1000000) (ht : id.size ≤ 100000) (n : Nat) (hn : n ≤ 10) (k : Nat) (h : 1100 ≤ k) : paymasterref07_First.f k key id (n : Int) = some ((numOf key (one1 5 ++ id) % 2 ^ n : Nat) : Int) := by
  obtain ⟨k, rfl⟩ : ∃ q, k = q + 1 := ⟨k - 1, by omega⟩
  unfold paymasterref07_First.f
  rw [if_neg (by omega), paymasterref07_First.j0, decide_eq_false (by omega), if_neg (by simp)]
  exact rfirst_l0 key id hk ht n hn n 0 k (by omega) (by omega)
theorem rsalt7 (key id : ByteArray) (hk : key.size ≤ 1000000) (ht : id.size ≤ 100000) (k : Nat) (h : 1000 ≤ k) : paymasterref07_Salt.f k key id = some ((macOf key (one1 3 ++ id)).extract 0 16) := by
  have hz : (one1 3 ++ id).size ≤ 1000000 := by rw [ByteArray.size_append]; show (⟨#[3]⟩ : ByteArray).size + id.size ≤ _; have : (⟨#[3]⟩ : ByteArray).size = 1 := rfl; omega
  unfold paymasterref07_Salt.f
  rw [if_pos (by omega), show (⟨#[3]⟩ : ByteArray) ++ id = one1 3 ++ id from rfl, rfirst key (one1 3 ++ id) hk hz k h, Option.bind_some]
end Go.Proofs.YtfijhbfdkcajjaaGreatDoor.Pr

/- Plain: a sort that puts each row in from the end. -/
namespace Go.SortKey
open Go Go.Shelf Go.Proofs
variable {α : Type}
/-- A row put in among the first n of acc, from the end. -/
def insAt (key : α → ByteArray) (x : α) (acc : List α) : Nat → List α
  | 0 => [x] ++ acc
  | n + 1 => match acc[n]? with
    | none => acc ++ [x]
    | some y => if Op.bytesLess (key x).toList (key y).toList = true then insAt key x acc n else acc.take (n + 1) ++ [x] ++ acc.drop (n + 1)
theorem insAt_perm (key : α → ByteArray) (x : α) (acc : List α) : ∀ n, n ≤ acc.length → (insAt key x acc n).Perm (x :: acc)
  | 0, _ => List.Perm.refl _
  | n + 1, h => by
    rw [insAt, List.getElem?_eq_getElem (by omega)]
    dsimp only
    split
    · exact insAt_perm key x acc n (by omega)
    · rw [List.append_assoc]
      have e : (x :: acc).Perm (x :: (acc.take (n + 1) ++ acc.drop (n + 1))) := by rw [List.take_append_drop]
      exact (List.perm_middle (l₁ := acc.take (n + 1)) (l₂ := acc.drop (n + 1)) (a := x)).trans e.symm
theorem insAt_len (key : α → ByteArray) (x : α) (acc : List α) (n : Nat) (h : n ≤ acc.length) : (insAt key x acc n).length = acc.length + 1 := (insAt_perm key x acc n h).length_eq
/-- All from n on are greater: then the row comes to its place. -/
theorem insAt_ord (key : α → ByteArray) (x : α) (acc : List α) (ho : Ordered key acc) : ∀ n, n ≤ acc.length → (∀ y, y ∈ acc.drop n → Op.bytesLess (key x).toList (key y).toList = true) → Ordered key (insAt key x acc n)
  | 0, _, hg => by
    rw [List.drop_zero] at hg
    refine List.Pairwise.cons (fun y hy => ?_) ho
    cases e : Op.bytesLess (key y).toList (key x).toList with
    | false => rfl
    | true => exact absurd (bl_trans (hg y hy) e) (by rw [bl_irrefl]; simp)
  | n + 1, h, hg => by
    have hn : n < acc.length := by omega
    rw [insAt, List.getElem?_eq_getElem hn]
    dsimp only
    split
    · rename_i hl
      refine insAt_ord key x acc ho n (by omega) (fun y hy => ?_)
      rw [List.drop_eq_getElem_cons hn] at hy
      rcases List.mem_cons.1 hy with rfl | hy
      · exact hl
      · exact hg y hy
    · rename_i hl
      have hl : Op.bytesLess (key x).toList (key acc[n]).toList = false := by simpa using hl
      unfold Ordered at ho ⊢
      have hsplit : (acc.take (n + 1) ++ acc.drop (n + 1)).Pairwise fun x y => Op.bytesLess (key y).toList (key x).toList = false := by rw [List.take_append_drop]; exact ho
      obtain ⟨h1, h2, h3⟩ := List.pairwise_append.1 hsplit
      rw [List.append_assoc, List.pairwise_append]
      refine ⟨h1, List.Pairwise.cons (fun y hy => ?_) h2, fun a ha b hb => ?_⟩
      · cases e : Op.bytesLess (key y).toList (key x).toList with
        | false => rfl
        | true => exact absurd (bl_trans (hg y hy) e) (by rw [bl_irrefl]; simp)
      · rcases List.mem_cons.1 hb with rfl | hb
        · -- a stands at n or ahead of it
          obtain ⟨i, hi, rfl⟩ := List.mem_take_iff_getElem.1 ha
          rcases Nat.lt_or_ge i n with h4 | h4
          · exact bl_ntrans hl (List.pairwise_iff_getElem.1 ho i n (by omega) hn h4)
          · obtain rfl : i = n := by omega
            exact hl
        · exact h3 a ha b hb
/-- The sort: each put in from the end. -/
def insAll (key : α → ByteArray) (l : List α) : List α := l.foldl (fun acc x => insAt key x acc acc.length) []
theorem insAll_sorts (key : α → ByteArray) (l : List α) : (insAll key l).Perm l ∧ Ordered key (insAll key l) := by
  unfold insAll
  suffices h : ∀ (l acc : List α), Ordered key acc → (l.foldl (fun acc x => insAt key x acc acc.length) acc).Perm (acc ++ l) ∧ Ordered key (l.foldl (fun acc x => insAt key x acc acc.length) acc) from by
    have := h l [] List.Pairwise.nil
    rwa [List.nil_append] at this
  intro l
  induction l with
  | nil => intro acc ha; rw [List.append_nil]; exact ⟨List.Perm.refl _, ha⟩
  | cons x l ih =>
    intro acc ha
    rw [List.foldl_cons]
    have ho := insAt_ord key x acc ha acc.length (Nat.le_refl _) (fun y hy => by rw [List.drop_length] at hy; cases hy)
    obtain ⟨h1, h2⟩ := ih _ ho
    refine ⟨h1.trans ?_, h2⟩
    exact ((insAt_perm key x acc acc.length (Nat.le_refl _)).append_right l).trans (List.perm_middle).symm
/-- It comes to the same as any other sort, of unlike texts. -/
theorem insAll_is (key : α → ByteArray) (l m : List α) (hp : m.Perm l) (ho : Ordered key m) (hk : ∀ x, x ∈ l → ∀ y, y ∈ l → (key x).toList = (key y).toList → x = y) : insAll key l = m := by
  obtain ⟨p, o⟩ := insAll_sorts key l
  exact ordered_unique key _ _ (p.trans hp.symm) o ho (fun x hx y hy => hk x (p.mem_iff.1 hx) y (p.mem_iff.1 hy))
end Go.SortKey

/- Plain: accounts and rows in another order come to the same places. -/
namespace Go.Proofs.YtfijhbfdkcajjaaGreatDoor.Pr
open Go.RowKit Go.SortKey
set_option linter.unusedVariables false
set_option linter.unusedSimpArgs false
theorem rowedFrom_iff (l : List S45) : rowedFrom l l.length 0 = true ↔ (∀ x, x ∈ l → mayIdB x.f0 = true) ∧ l.Pairwise (fun x y => x.f0 ≠ y.f0) := by
  have key : ∀ d i, i + d = l.length → (rowedFrom l d i = true ↔ ∀ j, i ≤ j → j < l.length → okRow l j = true) := by
    intro d
    induction d with
    | zero => intro i hi; exact ⟨fun _ j h1 h2 => by omega, fun _ => rfl⟩
    | succ d ih =>
      intro i hi
      rw [rowedFrom, Bool.and_eq_true, ih (i + 1) (by omega)]
      constructor
      · rintro ⟨h1, h2⟩ j h3 h4
        rcases Nat.eq_or_lt_of_le h3 with rfl | h5
        · exact h1
        · exact h2 j h5 h4
      · exact fun h => ⟨h i (Nat.le_refl _) (by omega), fun j h1 h2 => h j (by omega) h2⟩
  rw [key l.length 0 (by omega), List.pairwise_iff_getElem]
  have ok : ∀ j (hj : j < l.length), okRow l j = true ↔ mayIdB (l[j]).f0 = true ∧ ∀ i (hi : i < j), (l[i]).f0 ≠ (l[j]).f0 := by
    intro j hj
    unfold okRow
    rw [List.getElem?_eq_getElem hj]
    simp only [Bool.and_eq_true, Bool.not_eq_true', List.any_eq_false, decide_eq_true_eq]
    refine and_congr Iff.rfl ⟨fun h i hi => h _ (List.mem_take_iff_getElem.2 ⟨i, by omega, rfl⟩), fun h x hx => ?_⟩
    obtain ⟨i, hi, rfl⟩ := List.mem_take_iff_getElem.1 hx
    exact h i (by omega)
  constructor
  · intro h
    refine ⟨fun x hx => ?_, fun i j hi hj hij => ((ok j hj).1 (h j (Nat.zero_le _) hj)).2 i hij⟩
    obtain ⟨j, hj, rfl⟩ := List.getElem_of_mem hx
    exact ((ok j hj).1 (h j (Nat.zero_le _) hj)).1
  · rintro ⟨h1, h2⟩ j _ hj
    exact (ok j hj).2 ⟨h1 _ (List.getElem_mem hj), fun i hi => h2 i j (by omega) hj hi⟩
theorem key_eq {a b : ByteArray} (h : a.toList = b.toList) : a = b := byteArray_inj (by rw [ByteArray.toList_eq, ByteArray.toList_eq] at h; exact h)
theorem isFree_perm {l m : List S41} (h : l.Perm m) : isFree l = isFree m := by
  funext a
  unfold isFree
  congr 1
  rw [Bool.eq_iff_iff, List.any_eq_true, List.any_eq_true]
  exact ⟨fun ⟨x, hx, e⟩ => ⟨x, h.mem_iff.1 hx, e⟩, fun ⟨x, hx, e⟩ => ⟨x, h.mem_iff.2 hx, e⟩⟩
theorem steps_perm (s : ByteArray) (h : Nat) (q : List S45) : ∀ {l m : List S41}, l.Perm m → (q.foldl (placeStep s h) l).Perm (q.foldl (placeStep s h) m) := by
  induction q with
  | nil => exact fun h => h
  | cons x q ih =>
    intro l m hp
    rw [List.foldl_cons, List.foldl_cons]
    refine ih ?_
    unfold placeStep slotOf
    rw [isFree_perm hp]
    exact hp.append_right _
abbrev NeA (x y : S41) : Prop := x.f0 ≠ y.f0
abbrev NeR (x y : S45) : Prop := x.f0 ≠ y.f0
theorem had_id (was : List S41) (x y : S45) (h : x.f0 = y.f0) : hadB was x = hadB was y := by unfold hadB; rw [h]
theorem stay_mem (was : List S41) (rows : List S45) (a : S41) (h : a ∈ stayL was rows) : ∃ r, r ∈ rows ∧ hadB was r = true ∧ a.f0 = r.f0 := by
  unfold stayL at h
  rw [List.mem_filterMap] at h
  obtain ⟨r, hr, he⟩ := h
  cases hf : was.find? (isId r.f0) with
  | none => rw [hf] at he; cases he
  | some b =>
    rw [hf] at he
    have hid := List.find?_some hf
    have he := Option.some.inj he
    refine ⟨r, hr, by unfold hadB; rw [hf]; rfl, ?_⟩
    rw [← he]
    exact key_eq (by unfold isId at hid; simpa using hid)
theorem stay_pair (was : List S41) (rows : List S45) (h : rows.Pairwise NeR) : (stayL was rows).Pairwise NeA := by
  induction rows with
  | nil => exact List.Pairwise.nil
  | cons r rows ih =>
    obtain ⟨h1, h2⟩ := List.pairwise_cons.1 h
    have hr := ih h2
    cases hf : was.find? (isId r.f0) with
    | none =>
      have e : stayL was (r :: rows) = stayL was rows := by unfold stayL; rw [List.filterMap_cons, hf]; rfl
      rw [e]; exact hr
    | some b =>
      have e : stayL was (r :: rows) = ⟨b.f0, r.f1, b.f2, b.f3⟩ :: stayL was rows := by unfold stayL; rw [List.filterMap_cons, hf]; rfl
      rw [e]
      refine List.Pairwise.cons (fun a ha => ?_) hr
      obtain ⟨r', hr', _, e'⟩ := stay_mem was rows a ha
      have hid := List.find?_some hf
      have hb : b.f0 = r.f0 := key_eq (by unfold isId at hid; simpa using hid)
      show b.f0 ≠ a.f0
      rw [hb, e']
      exact h1 r' hr'
theorem steps_pair (s : ByteArray) (h : Nat) (q : List S45) (hq : q.Pairwise NeR) : ∀ (l : List S41), l.Pairwise NeA → (∀ a, a ∈ l → ∀ r, r ∈ q → a.f0 ≠ r.f0) → (q.foldl (placeStep s h) l).Pairwise NeA := by
  induction q with
  | nil => exact fun l hl _ => hl
  | cons x q ih =>
    intro l hl hd
    obtain ⟨h1, h2⟩ := List.pairwise_cons.1 hq
    rw [List.foldl_cons]
    refine ih h2 _ ?_ ?_
    · unfold placeStep
      rw [List.pairwise_append]
      refine ⟨hl, List.pairwise_singleton _ _, fun a ha b hb => ?_⟩
      rw [List.mem_singleton] at hb
      subst hb
      exact hd a ha x (List.mem_cons_self ..)
    · intro a ha r hr
      unfold placeStep at ha
      rcases List.mem_append.1 ha with h3 | h3
      · exact hd a h3 r (List.mem_cons_of_mem _ hr)
      · rw [List.mem_singleton] at h3
        subst h3
        exact h1 r hr
theorem unlike_of {l : List S41} (h : l.Pairwise NeA) : ∀ x, x ∈ l → ∀ y, y ∈ l → (accKey x).toList = (accKey y).toList → x = y := by
  rw [List.pairwise_iff_getElem] at h
  intro x hx y hy he
  have he2 : x.f0 = y.f0 := key_eq he
  obtain ⟨i, hi, rfl⟩ := List.getElem_of_mem hx
  obtain ⟨j, hj, rfl⟩ := List.getElem_of_mem hy
  rcases Nat.lt_trichotomy i j with h1 | h1 | h1
  · exact absurd he2 (h i j hi hj h1)
  · subst h1; rfl
  · exact absurd he2.symm (h j i hj hi h1)
theorem placeL_pair (s : ByteArray) (h : Nat) (was : List S41) (rows : List S45) (hr : rows.Pairwise NeR) : (placeL s h was rows (comingL was (insSort rowKey rows))).Pairwise NeA := by
  obtain ⟨_, hp, _⟩ := insSort_sorts rowKey rows
  have hR : (insSort rowKey rows).Pairwise NeR := (hp.pairwise_iff (fun h e => h e.symm)).2 hr
  unfold placeL
  refine steps_pair s h _ ?_ _ (stay_pair was rows hr) ?_
  · unfold comingL
    exact hR.sublist List.filter_sublist
  · intro a ha r hr' e
    obtain ⟨r', _, hh, e'⟩ := stay_mem was rows a ha
    have h3 := (List.mem_filter.1 (show r ∈ (insSort rowKey rows).filter fun x => !hadB was x from hr')).2
    rw [had_id was r r' (by rw [← e, e']), hh] at h3
    cases h3
end Go.Proofs.YtfijhbfdkcajjaaGreatDoor.Pr

/- Plain: what the reference computes of accounts and rows. -/
namespace Go.Proofs.YtfijhbfdkcajjaaGreatDoor.Pr
open Go.RowKit Go.Proofs.YtfijhbfdkcajjaaGreatDoorW.PrintWords Go.Proofs.YtfijhbfdkcajjaaGreatDoorW.PrintLast Go.Proofs.YtfijhbfdkcajjaaGreatDoorW.PrintMore Go.SortKey
set_option linter.unusedVariables false
set_option linter.unusedSimpArgs false

theorem rd_is (l : List S41) (i : Nat) (h : i < l.length) : rd_T41 l (i : Int) = l[i] := by simp [rd_T41, h]
theorem w64_succ (i : Nat) (h : i ≤ 1000000) : wrap64 ((i : Int) + 1) = ((i + 1 : Nat) : Int) := by rw [w64 (by omega) (by omega)]; push_cast; rfl
theorem rat_l (l : List S41) (a : Int) (hl : l.length ≤ 1000) : ∀ (d i k : Nat), i + d = l.length → d + 1 ≤ k → paymasterref12_At.l0 k l a (i : Int) = some (foundT ((l.drop i).find? (isSlot a)))
  | 0, i, k, hi, hk => by
    obtain ⟨k, rfl⟩ : ∃ q, k = q + 1 := ⟨k - 1, by omega⟩
    rw [paymasterref12_At.l0, if_neg (by omega), List.drop_eq_nil_of_le (by omega)]; rfl
  | d + 1, i, k, hi, hk => by
    obtain ⟨k, rfl⟩ : ∃ q, k = q + 1 := ⟨k - 1, by omega⟩
    have hlt : i < l.length := by omega
    rw [paymasterref12_At.l0, if_pos (by omega), if_pos (by omega), rd_is l i hlt, List.drop_eq_getElem_cons hlt, List.find?_cons]
    by_cases c : l[i].f3 = a
    · rw [if_pos c, show isSlot a l[i] = true from by unfold isSlot; rw [c]; simp]; rfl
    · rw [if_neg c, show isSlot a l[i] = false from by unfold isSlot; simpa using c, w64_succ i (by omega), rat_l l a hl d (i + 1) k (by omega) (by omega)]
theorem rat_is (l : List S41) (a : Int) (hl : l.length ≤ 1000) (k : Nat) (hk : l.length + 1 ≤ k) : paymasterref12_At.f k l a = some (foundT (l.find? (isSlot a))) := by
  have := rat_l l a hl l.length 0 k (by omega) hk
  rw [List.drop_zero] at this
  exact this
theorem pow_small (n : Nat) (h : n ≤ 10) : 1 ≤ 2 ^ n ∧ 2 ^ n ≤ 1024 := by
  have a1 : (1 : Nat) ≤ 2 ^ n := Nat.one_le_two_pow
  have a2 : (2 : Nat) ^ n ≤ 2 ^ 10 := Nat.pow_le_pow_right (by omega) h
  have a3 : (2 : Nat) ^ 10 = 1024 := by decide
  omega
theorem rmany_l (n : Nat) (hn : n ≤ 10) : ∀ (d i k : Nat), i + d = n → d + 1 ≤ k → paymasterref12_Many.l0 k (n : Int) ((2 ^ i : Nat) : Int) (i : Int) = some ((2 ^ n : Nat) : Int)
  | 0, i, k, hi, hk => by
    obtain ⟨k, rfl⟩ : ∃ q, k = q + 1 := ⟨k - 1, by omega⟩
    rw [paymasterref12_Many.l0, if_neg (by omega), show i = n by omega]
  | d + 1, i, k, hi, hk => by
    obtain ⟨k, rfl⟩ : ∃ q, k = q + 1 := ⟨k - 1, by omega⟩
    have hp := pow_small i (by omega)
    have e : IntKind.u64.wrap (2 * ((2 ^ i : Nat) : Int)) = ((2 ^ (i + 1) : Nat) : Int) := by
      rw [Nat.pow_succ]
      generalize 2 ^ i = m at hp ⊢
      simp only [IntKind.wrap, IntKind.bits, IntKind.signed]
      simp
      omega
    rw [paymasterref12_Many.l0, if_pos (by omega), e, w64_succ i (by omega), rmany_l n hn d (i + 1) k (by omega) (by omega)]
theorem rmany_is (n : Nat) (hn : n ≤ 10) (k : Nat) (hk : 12 ≤ k) : paymasterref12_Many.f k (n : Int) = some ((2 ^ n : Nat) : Int) := rmany_l n hn n 0 k (by omega) (by omega)
theorem rhigh_is (a : Int) : paymasterref12_High.f a = some (decide (0 ≤ a ∧ a ≤ 10)) := by
  unfold paymasterref12_High.f
  by_cases c : a ≥ 0
  · rw [if_pos c]; congr 1; by_cases d : a ≤ 10 <;> simp [c, d]
  · rw [if_neg c]; congr 1; symm; exact decide_eq_false (by omega)
def sameB (x y : S41) : Bool := decide (y.f0 = x.f0) || decide (y.f3 = x.f3)
theorem toList_inj (a b : ByteArray) : a.toList = b.toList ↔ a = b := by
  constructor
  · intro h; rw [ByteArray.toList_eq, ByteArray.toList_eq] at h; exact byteArray_inj h
  · intro h; rw [h]
theorem any_or (p q : S41 → Bool) : ∀ l : List S41, l.any (fun y => p y || q y) = (l.any p || l.any q)
  | [] => rfl
  | x :: l => by rw [List.any_cons, List.any_cons, List.any_cons, any_or p q l]; cases p x <;> cases q x <;> simp
theorem rmay_l1 (l : List S41) (a1 : Int) (i : Nat) (hi : i < l.length) (hl : l.length ≤ 1000) : ∀ (d j k : Nat), j + d = i → d + 1 ≤ k → paymasterref12_May.l1 k l a1 (i : Int) (j : Int) = if ((l.take i).drop j).any (sameB l[i]) = true then some false else paymasterref12_May.l0 (k - (d + 1)) l a1 ((i + 1 : Nat) : Int)
  | 0, j, k, hj, hk => by
    obtain ⟨k, rfl⟩ : ∃ q, k = q + 1 := ⟨k - 1, by omega⟩
    rw [paymasterref12_May.l1, if_neg (by omega), List.drop_eq_nil_of_le (by rw [List.length_take]; omega), if_neg (by simp), w64_succ i (by omega)]
    rfl
  | d + 1, j, k, hj, hk => by
    obtain ⟨k, rfl⟩ : ∃ q, k = q + 1 := ⟨k - 1, by omega⟩
    have hjl : j < l.length := by omega
    have ht : j < (l.take i).length := by rw [List.length_take]; omega
    have ih := rmay_l1 l a1 i hi hl d (j + 1) k (by omega) (by omega)
    rw [paymasterref12_May.l1, if_pos (by omega), if_pos (by omega), if_pos (by omega), if_pos (by omega), if_pos (by omega), rd_is l j hjl, rd_is l i hi, List.drop_eq_getElem_cons ht, List.any_cons, List.getElem_take]
    by_cases c1 : l[j].f0 = l[i].f0
    · rw [if_pos (by rw [c1]), if_pos (by unfold sameB; simp [c1])]
    · rw [if_neg (by rw [toList_inj]; exact c1)]
      by_cases c2 : l[j].f3 = l[i].f3
      · rw [if_pos c2, if_pos (by unfold sameB; simp [c2])]
      · rw [if_neg c2, w64_succ j (by omega), ih, show sameB l[i] l[j] = false from by unfold sameB; simp [c1, c2], Bool.false_or, show k + 1 - (d + 1 + 1) = k - (d + 1) by omega]
theorem rmay_l (l : List S41) (n : Nat) (hn : n ≤ 10) (hl : l.length ≤ 1000) (hs : ∀ x, x ∈ l → x.f0.size ≤ 1000) : ∀ (d i k : Nat), i + d = l.length → d * (l.length + 5) + 1200 ≤ k → paymasterref12_May.l0 k l (n : Int) (i : Int) = some (mayFrom ((2 ^ n : Nat) : Int) l d i)
  | 0, i, k, hi, hk => by
    obtain ⟨k, rfl⟩ : ∃ q, k = q + 1 := ⟨k - 1, by omega⟩
    rw [paymasterref12_May.l0, if_neg (by omega)]; rfl
  | d + 1, i, k, hi, hk => by
    obtain ⟨k, rfl⟩ : ∃ q, k = q + 1 := ⟨k - 1, by omega⟩
    have hlt : i < l.length := by omega
    have hk2 : d * (l.length + 5) + (l.length + 5) + 1200 ≤ k + 1 := by rw [Nat.succ_mul] at hk; exact hk
    rw [paymasterref12_May.l0, if_pos (by omega), if_pos (by omega), rd_is l i hlt, rmayId_is _ k (hs _ (List.getElem_mem hlt)) (by omega), Option.bind_some, mayFrom, okAt, List.getElem?_eq_getElem hlt]
    simp only
    obtain ⟨k, rfl⟩ : ∃ q, k = q + 1 := ⟨k - 1, by omega⟩
    cases c0 : mayIdB l[i].f0 with
    | false => rw [if_neg (by simp), paymasterref12_May.j1, if_pos rfl]; simp
    | true =>
      rw [if_pos rfl, rmany_is n hn _ (by omega), Option.bind_some]
      generalize hM : ((2 ^ n : Nat) : Int) = M
      by_cases c1 : l[i].f3 ≥ M
      · rw [if_pos c1, paymasterref12_May.j1, if_pos rfl, show decide (M ≤ l[i].f3) = true from decide_eq_true c1]; simp
      · rw [if_neg c1, paymasterref12_May.j1, show decide (M ≤ l[i].f3) = false from decide_eq_false c1]
        by_cases c2 : ((l[i].f2).size : Int) > 32
        · rw [if_pos (by simpa using c2), show decide (32 < ((l[i].f2).size : Int)) = true from decide_eq_true c2]; simp
        · rw [if_neg (by simpa using c2), show decide (32 < ((l[i].f2).size : Int)) = false from decide_eq_false c2]
          have h1 := rmay_l1 l (n : Int) i hlt hl i 0 k (by omega) (by omega)
          rw [List.drop_zero] at h1
          have e : (l.take i).any (sameB l[i]) = ((l.take i).any (fun y => decide (y.f0 = l[i].f0)) || (l.take i).any (fun y => decide (y.f3 = l[i].f3))) := by
            exact any_or _ _ _
          rw [show ((0 : Nat) : Int) = 0 from rfl] at h1
          rw [h1, e]
          have ih := rmay_l l n hn hl hs d (i + 1) (k - (i + 1)) (by omega) (by omega)
          cases (l.take i).any (fun y => decide (y.f0 = l[i].f0)) with
          | true => simp
          | false =>
            cases (l.take i).any (fun y => decide (y.f3 = l[i].f3)) with
            | true => simp
            | false =>
              rw [if_neg (by simp)]
              simp only [Bool.not_false, Bool.and_true, Bool.true_and]
              rw [hM] at ih
              exact ih
theorem rmay_is (l : List S41) (a1 : Int) (hl : l.length ≤ 1000) (hs : ∀ x, x ∈ l → x.f0.size ≤ 1000) (hw : ∀ x, x ∈ l → (Lit.int .u64 x.f3).wf = true) (k : Nat) (hk : l.length * (l.length + 5) + 1200 ≤ k) : paymasterref12_May.f k l a1 = slots_May.f l a1 := by
  unfold paymasterref12_May.f slots_May.f
  rw [rhigh_is, Option.bind_some, if_pos (show l.length ≤ 100000 ∧ (∀ x, x ∈ l → x.f0.size ≤ 1000) ∧ (∀ x, x ∈ l → (Lit.int .u64 x.f3).wf = true) from ⟨by omega, hs, hw⟩)]
  by_cases c : 0 ≤ a1 ∧ a1 ≤ 10
  · rw [decide_eq_true c, if_pos rfl, Bool.true_and]
    obtain ⟨n, rfl⟩ := Int.eq_ofNat_of_zero_le c.1
    rw [Int.toNat_natCast]
    exact rmay_l l n (by omega) hl hs l.length 0 k (by omega) hk
  · rw [decide_eq_false c, if_neg (by simp), Bool.false_and]
theorem rdr_is (l : List S45) (i : Nat) (h : i < l.length) : rd_T45 l (i : Int) = l[i] := by simp [rd_T45, h]
theorem rfind_l (l : List S41) (a : ByteArray) (hl : l.length ≤ 1000) : ∀ (d i k : Nat), i + d = l.length → d + 1 ≤ k → paymasterref12_Find.l0 k l a (i : Int) = some (foundT ((l.drop i).find? (isId a)))
  | 0, i, k, hi, hk => by
    obtain ⟨k, rfl⟩ : ∃ q, k = q + 1 := ⟨k - 1, by omega⟩
    rw [paymasterref12_Find.l0, if_neg (by omega), List.drop_eq_nil_of_le (by omega)]; rfl
  | d + 1, i, k, hi, hk => by
    obtain ⟨k, rfl⟩ : ∃ q, k = q + 1 := ⟨k - 1, by omega⟩
    have hlt : i < l.length := by omega
    rw [paymasterref12_Find.l0, if_pos (by omega), if_pos (by omega), rd_is l i hlt, List.drop_eq_getElem_cons hlt, List.find?_cons]
    by_cases c : l[i].f0.toList = a.toList
    · rw [if_pos c, show isId a l[i] = true from by unfold isId; rw [c]; simp]; rfl
    · rw [if_neg c, show isId a l[i] = false from by unfold isId; simpa using c, w64_succ i (by omega), rfind_l l a hl d (i + 1) k (by omega) (by omega)]
theorem rfind_is (l : List S41) (a : ByteArray) (hl : l.length ≤ 1000) (k : Nat) (hk : l.length + 1 ≤ k) : paymasterref12_Find.f k l a = some (foundT (l.find? (isId a))) := by
  have := rfind_l l a hl l.length 0 k (by omega) hk
  rw [List.drop_zero] at this
  exact this
theorem rfree_l (l : List S41) (hl : l.length ≤ 1000) (M : Nat) (hM : 1 ≤ M) (hM2 : M ≤ 1024) (f : Int) : ∀ (d t k : Nat), t + d = M → d + l.length + 2 ≤ k → paymasterref12_Free.l0 k l (M : Int) ((f % (M : Int) + t) % (M : Int)) (t : Int) = some (freeFrom (isFree l) (M : Int) f d t)
  | 0, t, k, ht, hk => by
    obtain ⟨k, rfl⟩ : ∃ q, k = q + 1 := ⟨k - 1, by omega⟩
    rw [paymasterref12_Free.l0, if_neg (by omega)]; rfl
  | d + 1, t, k, ht, hk => by
    obtain ⟨k, rfl⟩ : ∃ q, k = q + 1 := ⟨k - 1, by omega⟩
    have ih := rfree_l l hl M hM hM2 f d (t + 1) k (by omega) (by omega)
    have b0 : 0 ≤ (f % (M : Int) + t) % (M : Int) := Int.emod_nonneg _ (by omega)
    have b1 : (f % (M : Int) + t) % (M : Int) < (M : Int) := Int.emod_lt_of_pos _ (by omega)
    have en : Int.tmod (IntKind.u64.wrap ((f % (M : Int) + t) % (M : Int) + 1)) (M : Int) = (f % (M : Int) + ((t + 1 : Nat) : Int)) % (M : Int) := by
      rw [IntWalk.u64_in _ (by omega), Int.tmod_eq_emod_of_nonneg (by omega)]
      rw [show (f % (M : Int) + ((t + 1 : Nat) : Int)) = (f % (M : Int) + t) + 1 by omega]
      rw [Int.add_emod ((f % (M : Int) + t) % (M : Int)) 1, Int.emod_emod, ← Int.add_emod]
    have ek : IntKind.u64.wrap ((t : Int) + 1) = ((t + 1 : Nat) : Int) := by rw [IntWalk.u64_in _ (by omega)]; omega
    rw [paymasterref12_Free.l0, if_pos (by omega), rat_is l _ hl k (by omega), Option.bind_some, en, ek, ih, freeFrom]
    have hfr : isFree l ((f % (M : Int) + t) % (M : Int)) = !(l.find? (isSlot ((f % (M : Int) + t) % (M : Int)))).isSome := by
      unfold isFree
      congr 1
      rw [Bool.eq_iff_iff, List.any_eq_true, List.find?_isSome]
      rfl
    rw [hfr]
    cases hf : l.find? (isSlot ((f % (M : Int) + t) % (M : Int))) with
    | none =>
      refine (if_neg (show ¬ ((foundT none).2.2.2.2.2 = true) from by simp [foundT])).trans ?_
      rfl
    | some x =>
      refine (if_pos (show (foundT (some x)).2.2.2.2.2 = true from rfl)).trans ?_
      rw [if_neg (by omega)]
      rfl
theorem rfree_is (l : List S41) (hl : l.length ≤ 1000) (n : Nat) (hn : n ≤ 10) (f : Int) (h0 : 0 ≤ f) (h1 : f < ((2 ^ n : Nat) : Int)) (k : Nat) (hk : 3000 ≤ k) : paymasterref12_Free.f k l (n : Int) f = some (freeFrom (isFree l) ((2 ^ n : Nat) : Int) f (2 ^ n) 0) := by
  obtain ⟨p1, p2⟩ := pow_small n hn
  unfold paymasterref12_Free.f
  rw [rhigh_is, Option.bind_some, decide_eq_true (by omega), if_pos rfl, rmany_is n hn k (by omega), Option.bind_some]
  generalize 2 ^ n = M at *
  rw [if_neg (by omega), Int.tmod_eq_emod_of_nonneg h0]
  have h := rfree_l l hl M p1 p2 f M 0 k (by omega) (by omega)
  rw [show ((0 : Nat) : Int) = 0 from rfl, Int.add_zero, Int.emod_emod] at h
  exact h
def sameR (x y : S45) : Bool := decide (y.f0 = x.f0)
theorem rrow_l1 (l : List S45) (i : Nat) (hi : i < l.length) (hl : l.length ≤ 1000) : ∀ (d j k : Nat), j + d = i → d + 1 ≤ k → paymasterref12_rowed.l1 k l (i : Int) (j : Int) = if ((l.take i).drop j).any (sameR l[i]) = true then some false else paymasterref12_rowed.l0 (k - (d + 1)) l ((i + 1 : Nat) : Int)
  | 0, j, k, hj, hk => by
    obtain ⟨k, rfl⟩ : ∃ q, k = q + 1 := ⟨k - 1, by omega⟩
    rw [paymasterref12_rowed.l1, if_neg (by omega), List.drop_eq_nil_of_le (by rw [List.length_take]; omega), if_neg (by simp), w64_succ i (by omega)]
    rfl
  | d + 1, j, k, hj, hk => by
    obtain ⟨k, rfl⟩ : ∃ q, k = q + 1 := ⟨k - 1, by omega⟩
    have hjl : j < l.length := by omega
    have ht : j < (l.take i).length := by rw [List.length_take]; omega
    have ih := rrow_l1 l i hi hl d (j + 1) k (by omega) (by omega)
    rw [paymasterref12_rowed.l1, if_pos (by omega), if_pos (by omega), if_pos (by omega), if_pos (by omega), if_pos (by omega), rdr_is l j hjl, rdr_is l i hi, List.drop_eq_getElem_cons ht, List.any_cons, List.getElem_take]
    by_cases c1 : l[j].f0 = l[i].f0
    · rw [if_pos (by rw [c1]), if_pos (by unfold sameR; simp [c1])]
    · rw [if_neg (by rw [toList_inj]; exact c1), w64_succ j (by omega), ih, show sameR l[i] l[j] = false from by unfold sameR; simp [c1], Bool.false_or, show k + 1 - (d + 1 + 1) = k - (d + 1) by omega]
theorem rrow_l (l : List S45) (hl : l.length ≤ 1000) (hs : ∀ x, x ∈ l → x.f0.size ≤ 1000) : ∀ (d i k : Nat), i + d = l.length → d * (l.length + 5) + 1200 ≤ k → paymasterref12_rowed.l0 k l (i : Int) = some (rowedFrom l d i)
  | 0, i, k, hi, hk => by
    obtain ⟨k, rfl⟩ : ∃ q, k = q + 1 := ⟨k - 1, by omega⟩
    rw [paymasterref12_rowed.l0, if_neg (by omega)]; rfl
  | d + 1, i, k, hi, hk => by
    obtain ⟨k, rfl⟩ : ∃ q, k = q + 1 := ⟨k - 1, by omega⟩
    have hlt : i < l.length := by omega
    have hk2 : d * (l.length + 5) + (l.length + 5) + 1200 ≤ k + 1 := by rw [Nat.succ_mul] at hk; exact hk
    rw [paymasterref12_rowed.l0, if_pos (by omega), if_pos (by omega), rdr_is l i hlt, rmayId_is _ k (hs _ (List.getElem_mem hlt)) (by omega), Option.bind_some, rowedFrom, okRow, List.getElem?_eq_getElem hlt]
    simp only
    cases c0 : mayIdB l[i].f0 with
    | false => rw [if_neg (by simp)]; simp
    | true =>
      rw [if_pos rfl]
      have h1 := rrow_l1 l i hlt hl i 0 k (by omega) (by omega)
      rw [List.drop_zero, show ((0 : Nat) : Int) = 0 from rfl] at h1
      rw [h1, show (l.take i).any (sameR l[i]) = (l.take i).any (fun y => decide (y.f0 = l[i].f0)) from rfl]
      have ih := rrow_l l hl hs d (i + 1) (k - (i + 1)) (by omega) (by omega)
      cases (l.take i).any (fun y => decide (y.f0 = l[i].f0)) with
      | true => simp
      | false =>
        rw [if_neg (by simp)]
        simp only [Bool.not_false, Bool.and_true, Bool.true_and]
        exact ih
theorem rrow_is (l : List S45) (hl : l.length ≤ 1000) (hs : ∀ x, x ∈ l → x.f0.size ≤ 1000) (k : Nat) (hk : l.length * (l.length + 5) + 1200 ≤ k) : paymasterref12_rowed.f k l = some (rowedFrom l l.length 0) := rrow_l l hl hs l.length 0 k (by omega) hk
/-! ### the sorts -/
theorem rsrt_l1 (l : List S45) (hl : l.length ≤ 1000) (i : Nat) (hi : i < l.length) (acc : List S45) (ha : acc.length ≤ 1000) : ∀ (n k : Nat), n ≤ acc.length → n + 2 ≤ k → ∃ q, k - (n + 1) ≤ q ∧ paymasterref10_Sort.l1 k l acc (i : Int) (n : Int) = paymasterref10_Sort.l0 q l (insAt rowKey l[i] acc n) ((i + 1 : Nat) : Int) := by
  intro n
  induction n with
  | zero =>
    intro k hn hk
    obtain ⟨k, rfl⟩ : ∃ q, k = q + 1 := ⟨k - 1, by omega⟩
    refine ⟨k, by omega, ?_⟩
    rw [paymasterref10_Sort.l1, if_neg (by omega), Option.bind_some, if_pos (by omega), if_pos (by omega), Option.bind_some, if_pos (by simp; omega), Option.bind_some, Option.bind_some, if_pos (by omega), if_pos (by omega), if_pos (by simp), Option.bind_some, if_pos (by simp; omega), rdr_is l i hi, w64_succ i (by omega)]
    simp [insAt]
  | succ n ih =>
    intro k hn hk
    obtain ⟨k, rfl⟩ : ∃ q, k = q + 1 := ⟨k - 1, by omega⟩
    have hlt : n < acc.length := by omega
    have e1 : wrap64 (((n + 1 : Nat) : Int) - 1) = (n : Int) := by rw [w64 (by omega) (by omega)]; omega
    have hins : insAt rowKey l[i] acc (n + 1) = if Op.bytesLess (rowKey l[i]).toList (rowKey acc[n]).toList = true then insAt rowKey l[i] acc n else acc.take (n + 1) ++ [l[i]] ++ acc.drop (n + 1) := by
      rw [insAt, List.getElem?_eq_getElem hlt]
    rw [paymasterref10_Sort.l1, if_pos (by omega), e1, if_pos (by omega), if_pos (by omega), if_pos (by omega), if_pos (by omega), rdr_is l i hi, rdr_is acc n hlt, hins]
    by_cases c : Op.bytesLess (l[i].f0).toList (acc[n].f0).toList = true
    · rw [if_pos c, if_pos (show Op.bytesLess (rowKey l[i]).toList (rowKey acc[n]).toList = true from c)]
      obtain ⟨q, hq, e⟩ := ih k (by omega) (by omega)
      exact ⟨q, by omega, e⟩
    · rw [if_neg c, if_neg (show ¬ Op.bytesLess (rowKey l[i]).toList (rowKey acc[n]).toList = true from c)]
      refine ⟨k, by omega, ?_⟩
      rw [Option.bind_some, if_pos (by omega), if_pos (by omega), Option.bind_some, if_pos (by simp; omega), Option.bind_some, Option.bind_some, if_pos (by simp; omega), Option.bind_some, if_pos (by simp; omega), w64_succ i (by omega), Int.toNat_natCast, List.nil_append]
theorem rsrt_l0 (l : List S45) (hl : l.length ≤ 1000) : ∀ (d i k : Nat) (acc : List S45), i + d = l.length → acc.length = i → d * (l.length + 4) + 1 ≤ k → paymasterref10_Sort.l0 k l acc (i : Int) = some ((l.drop i).foldl (fun acc x => insAt rowKey x acc acc.length) acc) := by
  intro d
  induction d with
  | zero =>
    intro i k acc hi ha hk
    obtain ⟨k, rfl⟩ : ∃ q, k = q + 1 := ⟨k - 1, by omega⟩
    rw [paymasterref10_Sort.l0, if_neg (by omega), List.drop_eq_nil_of_le (by omega)]; rfl
  | succ d ih =>
    intro i k acc hi ha hk
    rw [Nat.succ_mul] at hk
    generalize hD : d * (l.length + 4) = D at hk ih
    obtain ⟨k, rfl⟩ : ∃ q, k = q + 1 := ⟨k - 1, by omega⟩
    have hlt : i < l.length := by omega
    obtain ⟨q, hq, e⟩ := rsrt_l1 l hl i hlt acc (by omega) acc.length k (Nat.le_refl _) (by omega)
    rw [paymasterref10_Sort.l0, if_pos (by omega), e, List.drop_eq_getElem_cons hlt, List.foldl_cons]
    exact ih (i + 1) q _ (by omega) (by rw [insAt_len _ _ _ _ (Nat.le_refl _)]; omega) (by omega)
theorem rsrt_is (l : List S45) (hl : l.length ≤ 1000) (k : Nat) (hk : l.length * (l.length + 4) + 1 ≤ k) : paymasterref10_Sort.f k l = some (insAll rowKey l) := by
  have := rsrt_l0 l hl l.length 0 k [] (by omega) rfl hk
  rw [List.drop_zero] at this
  exact this
theorem rsra_l1 (l : List S41) (hl : l.length ≤ 1000) (i : Nat) (hi : i < l.length) (acc : List S41) (ha : acc.length ≤ 1000) : ∀ (n k : Nat), n ≤ acc.length → n + 2 ≤ k → ∃ q, k - (n + 1) ≤ q ∧ paymasterref12_Sort.l1 k l acc (i : Int) (n : Int) = paymasterref12_Sort.l0 q l (insAt accKey l[i] acc n) ((i + 1 : Nat) : Int) := by
  intro n
  induction n with
  | zero =>
    intro k hn hk
    obtain ⟨k, rfl⟩ : ∃ q, k = q + 1 := ⟨k - 1, by omega⟩
    refine ⟨k, by omega, ?_⟩
    rw [paymasterref12_Sort.l1, if_neg (by omega), Option.bind_some, if_pos (by omega), if_pos (by omega), Option.bind_some, if_pos (by simp; omega), Option.bind_some, Option.bind_some, if_pos (by omega), if_pos (by omega), if_pos (by simp), Option.bind_some, if_pos (by simp; omega), rd_is l i hi, w64_succ i (by omega)]
    simp [insAt]
  | succ n ih =>
    intro k hn hk
    obtain ⟨k, rfl⟩ : ∃ q, k = q + 1 := ⟨k - 1, by omega⟩
    have hlt : n < acc.length := by omega
    have e1 : wrap64 (((n + 1 : Nat) : Int) - 1) = (n : Int) := by rw [w64 (by omega) (by omega)]; omega
    have hins : insAt accKey l[i] acc (n + 1) = if Op.bytesLess (accKey l[i]).toList (accKey acc[n]).toList = true then insAt accKey l[i] acc n else acc.take (n + 1) ++ [l[i]] ++ acc.drop (n + 1) := by
      rw [insAt, List.getElem?_eq_getElem hlt]
    rw [paymasterref12_Sort.l1, if_pos (by omega), e1, if_pos (by omega), if_pos (by omega), if_pos (by omega), if_pos (by omega), rd_is l i hi, rd_is acc n hlt, hins]
    by_cases c : Op.bytesLess (l[i].f0).toList (acc[n].f0).toList = true
    · rw [if_pos c, if_pos (show Op.bytesLess (accKey l[i]).toList (accKey acc[n]).toList = true from c)]
      obtain ⟨q, hq, e⟩ := ih k (by omega) (by omega)
      exact ⟨q, by omega, e⟩
    · rw [if_neg c, if_neg (show ¬ Op.bytesLess (accKey l[i]).toList (accKey acc[n]).toList = true from c)]
      refine ⟨k, by omega, ?_⟩
      rw [Option.bind_some, if_pos (by omega), if_pos (by omega), Option.bind_some, if_pos (by simp; omega), Option.bind_some, Option.bind_some, if_pos (by simp; omega), Option.bind_some, if_pos (by simp; omega), w64_succ i (by omega), Int.toNat_natCast, List.nil_append]
theorem rsra_l0 (l : List S41) (hl : l.length ≤ 1000) : ∀ (d i k : Nat) (acc : List S41), i + d = l.length → acc.length = i → d * (l.length + 4) + 1 ≤ k → paymasterref12_Sort.l0 k l acc (i : Int) = some ((l.drop i).foldl (fun acc x => insAt accKey x acc acc.length) acc) := by
  intro d
  induction d with
  | zero =>
    intro i k acc hi ha hk
    obtain ⟨k, rfl⟩ : ∃ q, k = q + 1 := ⟨k - 1, by omega⟩
    rw [paymasterref12_Sort.l0, if_neg (by omega), List.drop_eq_nil_of_le (by omega)]; rfl
  | succ d ih =>
    intro i k acc hi ha hk
    rw [Nat.succ_mul] at hk
    generalize hD : d * (l.length + 4) = D at hk ih
    obtain ⟨k, rfl⟩ : ∃ q, k = q + 1 := ⟨k - 1, by omega⟩
    have hlt : i < l.length := by omega
    obtain ⟨q, hq, e⟩ := rsra_l1 l hl i hlt acc (by omega) acc.length k (Nat.le_refl _) (by omega)
    rw [paymasterref12_Sort.l0, if_pos (by omega), e, List.drop_eq_getElem_cons hlt, List.foldl_cons]
    exact ih (i + 1) q _ (by omega) (by rw [insAt_len _ _ _ _ (Nat.le_refl _)]; omega) (by omega)
theorem rsra_is (l : List S41) (hl : l.length ≤ 1000) (k : Nat) (hk : l.length * (l.length + 4) + 1 ≤ k) : paymasterref12_Sort.f k l = some (insAll accKey l) := by
  have := rsra_l0 l hl l.length 0 k [] (by omega) rfl hk
  rw [List.drop_zero] at this
  exact this
end Go.Proofs.YtfijhbfdkcajjaaGreatDoor.Pr

/- Plain: where the reference places rows; SlotsPlaces answers true. -/
namespace Go.Proofs.YtfijhbfdkcajjaaGreatDoor.Pr
open Go.RowKit Go.Proofs.YtfijhbfdkcajjaaGreatDoorW.PrintWords Go.Proofs.YtfijhbfdkcajjaaGreatDoorW.PrintLast Go.Proofs.YtfijhbfdkcajjaaGreatDoorW.PrintMore Go.SortKey
set_option linter.unusedVariables false
set_option linter.unusedSimpArgs false
theorem rdA_is (l : List S41) (i : Nat) (h : i < l.length) : rd_T41 l (i : Int) = l[i] := by simp [rd_T41, h]
theorem rdR_is (l : List S45) (i : Nat) (h : i < l.length) : rd_T45 l (i : Int) = l[i] := by simp [rd_T45, h]
theorem wup (i : Nat) (h : i ≤ 1000000) : wrap64 ((i : Int) + 1) = ((i + 1 : Nat) : Int) := by rw [w64 (by omega) (by omega)]; push_cast; rfl
def longAT (x : S41) : Bool := decide (200 < x.f0.size) || decide (200 < x.f2.size)
theorem longA_l (l : List S41) (hl : l.length ≤ 1000) : ∀ (d i k : Nat), i + d = l.length → d + 1 ≤ k → paymasterlaw12_Long.l0 k l (i : Int) = some ((l.drop i).any longAT)
  | 0, i, k, hi, hk => by
    obtain ⟨k, rfl⟩ : ∃ q, k = q + 1 := ⟨k - 1, by omega⟩
    rw [paymasterlaw12_Long.l0, if_neg (by omega), List.drop_eq_nil_of_le (by omega)]; rfl
  | d + 1, i, k, hi, hk => by
    obtain ⟨k, rfl⟩ : ∃ q, k = q + 1 := ⟨k - 1, by omega⟩
    have hlt : i < l.length := by omega
    rw [paymasterlaw12_Long.l0, if_pos (by omega), if_pos (by omega), rdA_is l i hlt, List.drop_eq_getElem_cons hlt, List.any_cons]
    by_cases c1 : ((l[i].f0).size : Int) > 200
    · rw [if_pos c1, show longAT l[i] = true from by unfold longAT; simp; omega]; rfl
    · by_cases c2 : ((l[i].f2).size : Int) > 200
      · rw [if_neg c1, if_pos c2, show longAT l[i] = true from by unfold longAT; simp; omega]; rfl
      · rw [if_neg c1, if_neg c2, show longAT l[i] = false from by unfold longAT; simp; omega, wup i (by omega), longA_l l hl d (i + 1) k (by omega) (by omega), Bool.false_or]
def longRT (x : S45) : Bool := decide (200 < x.f0.size)
theorem longR_l (l : List S45) (hl : l.length ≤ 1000) : ∀ (d i k : Nat), i + d = l.length → d + 1 ≤ k → paymasterlaw10_Long.l0 k l (i : Int) = some ((l.drop i).any longRT)
  | 0, i, k, hi, hk => by
    obtain ⟨k, rfl⟩ : ∃ q, k = q + 1 := ⟨k - 1, by omega⟩
    rw [paymasterlaw10_Long.l0, if_neg (by omega), List.drop_eq_nil_of_le (by omega)]; rfl
  | d + 1, i, k, hi, hk => by
    obtain ⟨k, rfl⟩ : ∃ q, k = q + 1 := ⟨k - 1, by omega⟩
    have hlt : i < l.length := by omega
    rw [paymasterlaw10_Long.l0, if_pos (by omega), if_pos (by omega), rdR_is l i hlt, List.drop_eq_getElem_cons hlt, List.any_cons]
    by_cases c1 : ((l[i].f0).size : Int) > 200
    · rw [if_pos c1, show longRT l[i] = true from by unfold longRT; simp; omega]; rfl
    · rw [if_neg c1, show longRT l[i] = false from by unfold longRT; simp; omega, wup i (by omega), longR_l l hl d (i + 1) k (by omega) (by omega), Bool.false_or]
theorem same_l (L : List S41) (hl : L.length ≤ 100000) (d : Nat) : ∀ (i k : Nat), i + d = L.length → d + 1 ≤ k → paymasterref12_Same.l0 k L L (i : Int) = some true := by
  induction d with
  | zero =>
    intro i k hi hk
    obtain ⟨k, rfl⟩ : ∃ q, k = q + 1 := ⟨k - 1, by omega⟩
    rw [paymasterref12_Same.l0, if_neg (by omega)]
  | succ d ih =>
    intro i k hi hk
    obtain ⟨k, rfl⟩ : ∃ q, k = q + 1 := ⟨k - 1, by omega⟩
    rw [paymasterref12_Same.l0, if_pos (by omega), if_pos (by omega), if_pos (by omega), wup i (by omega), ih (i + 1) k (by omega) (by omega)]
    simp
theorem same_f (L : List S41) (hl : L.length ≤ 100000) (k : Nat) (hk : L.length + 1 ≤ k) : paymasterref12_Same.f k L L = some true := by
  unfold paymasterref12_Same.f
  rw [if_pos rfl]
  exact same_l L hl L.length 0 k (by omega) hk
theorem rplace_l0 (s : ByteArray) (n : Int) (was : List S41) (hwl : was.length ≤ 1000) (R : List S45) (hR : R.length ≤ 1000) : ∀ (d i k : Nat) (acc : List S41), i + d = R.length → acc.length + d ≤ 2000 → d + was.length + 2 ≤ k → ∃ q, k - (d + 1) ≤ q ∧ paymasterref12_Place.l0 k s n was R acc (i : Int) = paymasterref12_Place.l1 q s n was R (acc ++ stayL was (R.drop i)) 0 := by
  intro d
  induction d with
  | zero =>
    intro i k acc hi ha hk
    obtain ⟨k, rfl⟩ : ∃ q, k = q + 1 := ⟨k - 1, by omega⟩
    refine ⟨k, by omega, ?_⟩
    rw [paymasterref12_Place.l0, if_neg (by omega), List.drop_eq_nil_of_le (by omega)]
    simp [stayL]
  | succ d ih =>
    intro i k acc hi ha hk
    obtain ⟨k, rfl⟩ : ∃ q, k = q + 1 := ⟨k - 1, by omega⟩
    have hlt : i < R.length := by omega
    rw [paymasterref12_Place.l0, if_pos (by omega), if_pos (by omega), rdr_is R i hlt, w64_succ i (by omega), rfind_is was _ hwl k (by omega), Option.bind_some, List.drop_eq_getElem_cons hlt]
    cases hf : was.find? (isId (R[i]).f0) with
    | none =>
      obtain ⟨q, hq, e⟩ := ih (i + 1) k acc (by omega) (by omega) (by omega)
      refine ⟨q, by omega, ?_⟩
      refine (if_neg (show ¬ ((foundT none).2.2.2.2.2 = true) from by simp [foundT])).trans ?_
      rw [e]
      congr 2
      unfold stayL
      rw [List.filterMap_cons, hf]
      rfl
    | some b =>
      obtain ⟨q, hq, e⟩ := ih (i + 1) k (acc ++ [⟨b.f0, (R[i]).f1, b.f2, b.f3⟩]) (by omega) (by rw [List.length_append, List.length_singleton]; omega) (by omega)
      refine ⟨q, by omega, ?_⟩
      refine (if_pos (show (foundT (some b)).2.2.2.2.2 = true from rfl)).trans ?_
      rw [if_pos (by omega)]
      refine Eq.trans e ?_
      congr 1
      rw [List.append_assoc]
      congr 1
      unfold stayL
      rw [List.filterMap_cons, hf]
      rfl
theorem rplace_l1 (s : ByteArray) (hs : s.size ≤ 1000) (n : Nat) (hn : n ≤ 10) (was : List S41) (hwl : was.length ≤ 1000) (R : List S45) (hR : R.length ≤ 1000) (hid : ∀ r, r ∈ R → r.f0.size ≤ 1000) : ∀ (d i k : Nat) (acc : List S41), i + d = R.length → acc.length + d ≤ 1000 → d + 1010000 ≤ k → paymasterref12_Place.l1 k s (n : Int) was R acc (i : Int) = some (insAll accKey ((comingL was (R.drop i)).foldl (placeStep s n) acc), 0) := by
  intro d
  induction d with
  | zero =>
    intro i k acc hi ha hk
    obtain ⟨k, rfl⟩ : ∃ q, k = q + 1 := ⟨k - 1, by omega⟩
    have hb : acc.length * (acc.length + 4) ≤ 1000 * 1004 := Nat.mul_le_mul (by omega) (by omega)
    rw [paymasterref12_Place.l1, if_neg (by omega), rsra_is acc (by omega) k (by omega), Option.bind_some, List.drop_eq_nil_of_le (by omega)]
    rfl
  | succ d ih =>
    intro i k acc hi ha hk
    obtain ⟨k, rfl⟩ : ∃ q, k = q + 1 := ⟨k - 1, by omega⟩
    have hlt : i < R.length := by omega
    have hsz := hid _ (List.getElem_mem hlt)
    rw [paymasterref12_Place.l1, if_pos (by omega), if_pos (by omega), rdr_is R i hlt, w64_succ i (by omega), rfind_is was _ hwl k (by omega), Option.bind_some, List.drop_eq_getElem_cons hlt]
    cases hf : was.find? (isId (R[i]).f0) with
    | some b =>
      refine (if_pos (show (foundT (some b)).2.2.2.2.2 = true from rfl)).trans ?_
      rw [ih (i + 1) k acc (by omega) (by omega) (by omega)]
      have e : comingL was (R[i] :: R.drop (i + 1)) = comingL was (R.drop (i + 1)) := by
        unfold comingL
        rw [List.filter_cons, if_neg (by unfold hadB; rw [hf]; simp)]
      rw [e]
    | none =>
      refine (if_neg (show ¬ ((foundT none).2.2.2.2.2 = true) from by simp [foundT])).trans ?_
      have e : comingL was (R[i] :: R.drop (i + 1)) = R[i] :: comingL was (R.drop (i + 1)) := by
        unfold comingL
        rw [List.filter_cons, if_pos (by unfold hadB; rw [hf]; simp)]
      have f1 : (((Sh.numOf s (Sh.one1 5 ++ (R[i]).f0) % 2 ^ n : Nat) : Nat) : Int) < ((2 ^ n : Nat) : Int) := Int.ofNat_lt.2 (Nat.mod_lt _ (by have := pow_small n hn; omega))
      rw [rfirst7 s _ (by omega) (by omega) n hn k (by omega), Option.bind_some, rfree_is acc (by omega) n hn _ (Int.natCast_nonneg _) f1 k (by omega), Option.bind_some, rsalt7 s _ (by omega) (by omega) k (by omega), Option.bind_some, if_pos (by omega), e, List.foldl_cons]
      exact ih (i + 1) k (placeStep s n acc R[i]) (by omega) (by unfold placeStep; rw [List.length_append, List.length_singleton]; omega) (by omega)
theorem rplace_is (s : ByteArray) (hs : s.size ≤ 1000) (a1 : Int) (was : List S41) (rows : List S45) (hwl : was.length ≤ 200) (hrl : rows.length ≤ 200) (hws : ∀ x, x ∈ was → x.f0.size ≤ 1000) (hrs : ∀ x, x ∈ rows → x.f0.size ≤ 1000) (hw : ∀ x, x ∈ was → (Lit.int .u64 x.f3).wf = true) (K : Nat) (hK : 3000000 ≤ K) :
    paymasterref12_Place.f K s a1 was rows = slots_Place.f s a1 was rows := by
  have hc : was.length ≤ 100000 ∧ (∀ x, x ∈ was → x.f0.size ≤ 1000) ∧ (∀ x, x ∈ was → (Lit.int .u64 x.f3).wf = true) ∧ rows.length ≤ 300 ∧ (∀ x, x ∈ rows → x.f0.size ≤ 1000) := ⟨by omega, hws, hw, by omega, hrs⟩
  have b1 : was.length * (was.length + 5) ≤ 200 * 205 := Nat.mul_le_mul (by omega) (by omega)
  have b2 : rows.length * (rows.length + 5) ≤ 200 * 205 := Nat.mul_le_mul (by omega) (by omega)
  have b3 : rows.length * (rows.length + 4) ≤ 200 * 204 := Nat.mul_le_mul (by omega) (by omega)
  unfold slots_Place.f
  rw [if_pos hc]
  unfold paymasterref12_Place.f
  rw [rhigh_is, Option.bind_some]
  by_cases ch : 0 ≤ a1 ∧ a1 ≤ 10
  case neg => rw [decide_eq_false ch, if_neg (by simp), if_pos ch]
  rw [decide_eq_true ch, if_pos rfl, if_neg (not_not_intro ch)]
  by_cases cs : (s.size : Int) > 64
  · rw [if_pos cs, if_pos (show 64 < s.size by omega)]
  rw [if_neg cs, if_neg (show ¬ 64 < s.size by omega), rmay_is was a1 (by omega) hws hw K (by omega)]
  obtain ⟨n, rfl⟩ := Int.eq_ofNat_of_zero_le ch.1
  have hn : n ≤ 10 := by omega
  obtain ⟨p1, p2⟩ := pow_small n hn
  obtain ⟨K, rfl⟩ : ∃ q, K = q + 1 := ⟨K - 1, by omega⟩
  have hm : slots_May.f was (n : Int) = some (mayFrom ((2 ^ n : Nat) : Int) was was.length 0) := by
    unfold slots_May.f
    rw [if_pos ⟨hc.1, hws, hw⟩, decide_eq_true ch, Int.toNat_natCast, Bool.true_and]
  rw [hm, Option.bind_some, Int.toNat_natCast]
  cases cm : mayFrom ((2 ^ n : Nat) : Int) was was.length 0 with
  | false => rw [if_neg (by simp), Bool.false_and, if_pos rfl, paymasterref12_Place.j0, if_pos rfl]
  | true =>
    rw [if_pos rfl, rrow_is rows (by omega) hrs _ (by omega), Option.bind_some, Bool.true_and]
    cases cr : rowedFrom rows rows.length 0 with
    | false => rw [if_pos rfl, paymasterref12_Place.j0, if_pos (by rfl)]
    | true =>
      rw [if_neg (by simp), paymasterref12_Place.j0, if_neg (by simp), rmany_is n hn K (by omega), Option.bind_some, IntWalk.u64_in _ (by omega)]
      by_cases cq : 2 ^ n < rows.length
      · rw [if_pos (by omega), if_pos cq]
      · rw [if_neg (by omega), if_neg cq, rsrt_is rows (by omega) K (by omega), Option.bind_some]
        obtain ⟨_, hp, ho⟩ := insSort_sorts rowKey rows
        have hR : insAll rowKey rows = insSort rowKey rows := insAll_is rowKey rows _ hp ho (rowed_unlike rows cr)
        rw [hR]
        have hlen := hp.length_eq
        obtain ⟨q, hq, e⟩ := rplace_l0 s (n : Int) was (by omega) (insSort rowKey rows) (by omega) (insSort rowKey rows).length 0 K [] (by omega) (by simp; omega) (by omega)
        rw [show ((0 : Nat) : Int) = 0 from rfl] at e
        rw [e, List.nil_append, List.drop_zero]
        have hst : (stayL was (insSort rowKey rows)).length ≤ rows.length := by have := stayL_len was (insSort rowKey rows); omega
        have h1 := rplace_l1 s hs n hn was (by omega) (insSort rowKey rows) (by omega) (fun r hr => hrs r (hp.mem_iff.1 hr)) (insSort rowKey rows).length 0 q (stayL was (insSort rowKey rows)) (by omega) (by omega) (by omega)
        rw [show ((0 : Nat) : Int) = 0 from rfl, List.drop_zero] at h1
        rw [h1]
        congr 2
        have hperm : ((comingL was (insSort rowKey rows)).foldl (placeStep s n) (stayL was (insSort rowKey rows))).Perm (placeL s n was rows (comingL was (insSort rowKey rows))) := by
          unfold placeL
          exact steps_perm s n _ (hp.filterMap _)
        have hu := unlike_of (placeL_pair s n was rows ((rowedFrom_iff _).1 cr).2)
        obtain ⟨_, p2, o2⟩ := accSort_sorts (placeL s n was rows (comingL was (insSort rowKey rows)))
        exact insAll_is accKey _ _ (p2.trans hperm.symm) o2 (fun x hx y hy => hu x (hperm.mem_iff.1 hx) y (hperm.mem_iff.1 hy))
theorem samer_l (L : List S45) (hl : L.length ≤ 100000) (d : Nat) : ∀ (i k : Nat), i + d = L.length → d + 1 ≤ k → paymasterref10_Same.l0 k L L (i : Int) = some true := by
  induction d with
  | zero =>
    intro i k hi hk
    obtain ⟨k, rfl⟩ : ∃ q, k = q + 1 := ⟨k - 1, by omega⟩
    rw [paymasterref10_Same.l0, if_neg (by omega)]
  | succ d ih =>
    intro i k hi hk
    obtain ⟨k, rfl⟩ : ∃ q, k = q + 1 := ⟨k - 1, by omega⟩
    rw [paymasterref10_Same.l0, if_pos (by omega), if_pos (by omega), if_pos (by omega), wup i (by omega), ih (i + 1) k (by omega) (by omega)]
    simp
theorem samer_f (L : List S45) (hl : L.length ≤ 100000) (k : Nat) (hk : L.length + 1 ≤ k) : paymasterref10_Same.f k L L = some true := by
  unfold paymasterref10_Same.f
  rw [if_pos rfl]
  exact samer_l L hl L.length 0 k (by omega) hk
theorem places_pure (a0 : ByteArray) (a1 : Int) (l : List S41) (rows : List S45) (hw : ∀ x, x ∈ l → (Lit.int .u64 x.f3).wf = true) : ∃ k, paymasterlaw12_SlotsPlaces.f k a0 a1 l rows = some true := by
  obtain ⟨K, hK⟩ : ∃ K : Nat, 4000000 ≤ K := ⟨4000000, Nat.le_refl _⟩
  refine ⟨K + 1, ?_⟩
  unfold paymasterlaw12_SlotsPlaces.f
  have hj : paymasterlaw12_SlotsPlaces.j0 (K + 1) a0 a1 l rows true = some true := by rw [paymasterlaw12_SlotsPlaces.j0, if_pos rfl]
  by_cases c : (a0.size : Int) > 200
  · rw [if_pos c, hj]
  rw [if_neg c]
  unfold paymasterlaw12_Long.f
  by_cases c2 : (l.length : Int) > 200
  · rw [if_pos c2, Option.bind_some, if_pos rfl, hj]
  rw [if_neg c2]
  have hLo := longA_l l (by omega) l.length 0 (K + 1) (by omega) (by omega)
  rw [List.drop_zero, show ((0 : Nat) : Int) = 0 from rfl] at hLo
  rw [hLo, Option.bind_some]
  cases hb : l.any longAT with
  | true => rw [if_pos rfl, hj]
  | false =>
    rw [if_neg (by simp)]
    unfold paymasterlaw10_Long.f
    by_cases c3 : (rows.length : Int) > 200
    · rw [if_pos c3, Option.bind_some, hj]
    rw [if_neg c3]
    have hRo := longR_l rows (by omega) rows.length 0 (K + 1) (by omega) (by omega)
    rw [List.drop_zero, show ((0 : Nat) : Int) = 0 from rfl] at hRo
    rw [hRo, Option.bind_some]
    cases hb2 : rows.any longRT with
    | true => rw [hj]
    | false =>
      have hsz : ∀ x, x ∈ l → x.f0.size ≤ 1000 := by
        intro x hx
        have := List.any_eq_false.1 hb x hx
        unfold longAT at this
        simp at this
        omega
      have hsr : ∀ x, x ∈ rows → x.f0.size ≤ 1000 := by
        intro x hx
        have := List.any_eq_false.1 hb2 x hx
        unfold longRT at this
        simp at this
        omega
      have hp := rplace_is a0 (by omega) a1 l rows (by omega) (by omega) hsz hsr hw K (by omega)
      have hc : l.length ≤ 100000 ∧ (∀ x, x ∈ l → x.f0.size ≤ 1000) ∧ (∀ x, x ∈ l → (Lit.int .u64 x.f3).wf = true) ∧ rows.length ≤ 300 ∧ (∀ x, x ∈ rows → x.f0.size ≤ 1000) := ⟨by omega, hsz, hw, by omega, hsr⟩
      obtain ⟨p, hpl, hpn⟩ : ∃ p, slots_Place.f a0 a1 l rows = some p ∧ p.1.length ≤ 1000 := by
        unfold slots_Place.f
        rw [if_pos hc]
        refine ⟨_, rfl, ?_⟩
        split
        · simp
        · split
          · simp
          · split
            · simp
            · split
              · simp
              · show (accSort _).length ≤ 1000
                rw [(accSort_sorts _).1, placeL_len]
                have q1 := stayL_len l rows
                have q2 := comingL_len l (insSort rowKey rows)
                have q3 := (insSort_sorts rowKey rows).1
                omega
      rw [paymasterlaw12_SlotsPlaces.j0, if_neg (by simp), Option.bind_some, if_pos (by simp; omega), Option.bind_some, Option.bind_some, if_pos (by simp; omega), Option.bind_some, List.nil_append, List.nil_append, hp, hpl, Option.bind_some, Option.bind_some, same_f p.1 (by omega) K (by omega), Option.bind_some, if_pos rfl, if_pos rfl, same_f l (by omega) K (by omega), Option.bind_some, if_pos rfl, samer_f rows (by omega) K (by omega), Option.bind_some]
end Go.Proofs.YtfijhbfdkcajjaaGreatDoor.Pr
