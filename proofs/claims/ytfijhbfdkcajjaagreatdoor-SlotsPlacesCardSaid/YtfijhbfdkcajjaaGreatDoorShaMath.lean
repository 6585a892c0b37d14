/- The plain law of the digests: what is taken in parts is what is taken at once; a mac by digests. -/
import Derived.Test.YtfijhbfdkcajjaaGreatDoorShaAll
namespace Go.Proofs.YtfijhbfdkcajjaaGreatDoor.Sh
set_option linter.unusedVariables false
set_option linter.unusedSimpArgs false
attribute [local irreducible] nextX
def foldFull (s : St8) : Nat → ByteArray → St8
  | 0, _ => s
  | n + 1, x => foldFull (nextX s (x.extract 0 64)) n (x.extract 64 x.size)
def tailOf : Nat → ByteArray → ByteArray
  | 0, x => x
  | n + 1, x => tailOf n (x.extract 64 x.size)
theorem fold_zero (s : St8) (x : ByteArray) : foldFull s 0 x = s := rfl
theorem tail_zero (x : ByteArray) : tailOf 0 x = x := rfl
theorem fold_succ (s : St8) (n : Nat) (x : ByteArray) : foldFull s (n + 1) x = foldFull (nextX s (x.extract 0 64)) n (x.extract 64 x.size) := rfl
theorem tail_succ (n : Nat) (x : ByteArray) : tailOf (n + 1) x = tailOf n (x.extract 64 x.size) := rfl
theorem absorb_cons (p : St8 × ByteArray) (x : Part) (l : List Part) : absorb p (x :: l) = absorb (absorb1 p x) l := rfl
theorem absorb1_true (s : St8) (r b : ByteArray) : absorb1 (s, r) (b, true) = (nextX s b, ⟨#[]⟩) := rfl
theorem absorb1_false (s : St8) (r b : ByteArray) : absorb1 (s, r) (b, false) = (s, b) := rfl
theorem absorb_items (n : Nat) : ∀ (x : ByteArray), x.size / 64 = n → ∀ (s : St8) (r : ByteArray), absorb (s, r) (items x) = (foldFull s n x, tailOf n x) := by
  induction n with
  | zero =>
    intro x hn s r
    rw [items_last x (by omega), absorb_cons, absorb1_false, fold_zero, tail_zero]
    rfl
  | succ n ih =>
    intro x hn s r
    rw [items_more x (by omega), absorb_cons, absorb1_true, fold_succ, tail_succ]
    exact ih _ (by rw [size_rest]; omega) _ _
theorem list_ext {a b : ByteArray} (h : a.data.toList = b.data.toList) : a = b := by
  cases a; cases b; simp at h; rw [h]
theorem toList_extract (x : ByteArray) (a b : Nat) : (x.extract a b).data.toList = (x.data.toList.drop a).take (b - a) := by
  rw [ByteArray.data_extract, Array.toList_extract]
theorem toList_append (x y : ByteArray) : (x ++ y).data.toList = x.data.toList ++ y.data.toList := by
  rw [ByteArray.data_append, Array.toList_append]
theorem toList_length (x : ByteArray) : x.data.toList.length = x.size := rfl
theorem app_head (x y : ByteArray) (h : 64 ≤ x.size) : (x ++ y).extract 0 64 = x.extract 0 64 := by
  apply list_ext
  rw [toList_extract, toList_extract, toList_append, List.drop_zero, List.drop_zero]
  exact List.take_append_of_le_length h
theorem app_rest (x y : ByteArray) (h : 64 ≤ x.size) : (x ++ y).extract 64 (x ++ y).size = x.extract 64 x.size ++ y := by
  apply list_ext
  rw [toList_extract, toList_append, toList_append, toList_extract, List.drop_append_of_le_length h, ByteArray.size_append]
  rw [List.take_of_length_le (by rw [List.length_append, List.length_drop, toList_length, toList_length]; omega), List.take_of_length_le (by rw [List.length_drop, toList_length]; omega)]
theorem fold_append (n : Nat) : ∀ (x : ByteArray), x.size / 64 = n → ∀ (s : St8) (y : ByteArray),
    foldFull s ((x ++ y).size / 64) (x ++ y) = foldFull (foldFull s n x) ((tailOf n x ++ y).size / 64) (tailOf n x ++ y) ∧ tailOf ((x ++ y).size / 64) (x ++ y) = tailOf ((tailOf n x ++ y).size / 64) (tailOf n x ++ y) := by
  induction n with
  | zero =>
    intro x hn s y
    rw [fold_zero, tail_zero]
    exact ⟨rfl, rfl⟩
  | succ n ih =>
    intro x hn s y
    have h : 64 ≤ x.size := by omega
    have h1 : (x ++ y).size / 64 = (x.extract 64 x.size ++ y).size / 64 + 1 := by
      rw [ByteArray.size_append, ByteArray.size_append, size_rest]; omega
    have ih := ih (x.extract 64 x.size) (by rw [size_rest]; omega) (nextX s (x.extract 0 64)) y
    rw [h1, fold_succ, tail_succ, fold_succ, tail_succ, app_head x y h, app_rest x y h]
    exact ih
theorem bytes_assoc (x y z : ByteArray) : x ++ y ++ z = x ++ (y ++ z) := by
  apply list_ext
  simp only [toList_append, List.append_assoc]
theorem bytes_nil (x : ByteArray) : (⟨#[]⟩ : ByteArray) ++ x = x := by
  apply list_ext
  rw [toList_append]
  rfl
/-- What is taken in parts. -/
theorem taken_append (s : St8) (r x y : ByteArray) : taken (taken s r x).1 (taken s r x).2 y = taken s r (x ++ y) := by
  obtain ⟨n, hn⟩ : ∃ n, (r ++ x).size / 64 = n := ⟨_, rfl⟩
  have e1 : taken s r x = (foldFull s n (r ++ x), tailOf n (r ++ x)) := absorb_items n _ hn s r
  rw [e1]
  unfold taken
  rw [absorb_items _ _ rfl, absorb_items _ _ rfl, ← bytes_assoc]
  obtain ⟨h1, h2⟩ := fold_append n (r ++ x) hn s y
  rw [h1, h2]
/-- The digest of a text, its padding behind it. -/
theorem shaSum_whole (t : ByteArray) : shaSum t = strOfNums (stateBytes (foldFull st0 ((t ++ padA t.size).size / 64) (t ++ padA t.size))) := by
  unfold shaSum sumX
  rw [taken_append]
  unfold taken
  rw [bytes_nil, absorb_items _ _ rfl]
/-- A mac by digests. -/
theorem macOf_sums (key t : ByteArray) : macOf key t = shaSum (xorB 92 (blockOf key) ++ shaSum (xorB 54 (blockOf key) ++ t)) := by
  have h : sumX (taken (keyed key).1 (keyed key).2 t).1 (taken (keyed key).1 (keyed key).2 t).2 (64 + t.size) = shaSum (xorB 54 (blockOf key) ++ t) := by
    unfold keyed shaSum
    rw [taken_append, ByteArray.size_append, xorB_size, blockOf_size]
  unfold macOf
  rw [h]
/-- One block more of a text that is gone through by places. -/
theorem foldFull_step (s : St8) (x : ByteArray) (k n : Nat) (h : 64 * (k + 1) ≤ x.size) :
    foldFull s (n + 1) (x.extract (64 * k) x.size) = foldFull (nextX s (x.extract (64 * k) (64 * k + 64))) n (x.extract (64 * (k + 1)) x.size) := by
  have e1 : (x.extract (64 * k) x.size).extract 0 64 = x.extract (64 * k) (64 * k + 64) := by
    apply list_ext
    simp only [toList_extract, List.drop_zero, List.take_take]
    congr 1
    omega
  have e2 : (x.extract (64 * k) x.size).extract 64 (x.extract (64 * k) x.size).size = x.extract (64 * (k + 1)) x.size := by
    apply list_ext
    have hz : (x.extract (64 * k) x.size).size = x.size - 64 * k := by rw [ByteArray.size_extract]; omega
    simp only [toList_extract, hz]
    rw [List.drop_take, List.drop_drop, List.take_take]
    congr 1
    omega
  rw [fold_succ, e1, e2]
end Go.Proofs.YtfijhbfdkcajjaaGreatDoor.Sh
