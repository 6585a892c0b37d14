/- Plain: rows in the order of a text of theirs. -/
import Derived.Shelf.SlSortCmp.InsertionK
import Derived.Sort.LotA
import Derived.Sort.Walk0
namespace Go.SortKey
open Go Go.Shelf Go.Proofs
variable {α : Type}
theorem bl_irrefl (a : List UInt8) : Op.bytesLess a a = false := by rw [bytesLess_eq]; exact decide_eq_false (List.lt_irrefl a)
theorem bl_trans {a b c : List UInt8} (h1 : Op.bytesLess a b = true) (h2 : Op.bytesLess b c = true) : Op.bytesLess a c = true := by
  rw [bytesLess_eq] at *
  exact decide_eq_true (List.lt_trans (of_decide_eq_true h1) (of_decide_eq_true h2))
theorem bl_total {a b : List UInt8} (h1 : Op.bytesLess a b = false) (h2 : Op.bytesLess b a = false) : a = b := by
  rw [bytesLess_eq] at *
  exact List.le_antisymm (List.not_lt.1 (of_decide_eq_false h2)) (List.not_lt.1 (of_decide_eq_false h1))
theorem bl_ntrans {a b c : List UInt8} (h1 : Op.bytesLess a b = false) (h2 : Op.bytesLess b c = false) : Op.bytesLess a c = false := by
  rw [bytesLess_eq] at *
  exact decide_eq_false (List.not_lt.2 (List.le_trans (List.not_lt.1 (of_decide_eq_false h2)) (List.not_lt.1 (of_decide_eq_false h1))))
/-- cmp.Compare of two rows' texts. -/
def keyCmp (key : α → ByteArray) (x y : α) : Int := if Op.bytesLess (key x).toList (key y).toList = true then -1 else if Op.bytesLess (key y).toList (key x).toList = true then 1 else 0
theorem ltKey (key : α → ByteArray) (x y : α) : ltOf (keyCmp key) x y = Op.bytesLess (key x).toList (key y).toList := by
  unfold ltOf keyCmp
  cases h1 : Op.bytesLess (key x).toList (key y).toList with
  | true => simp
  | false =>
    cases h2 : Op.bytesLess (key y).toList (key x).toList <;> simp
theorem swoKey (key : α → ByteArray) : Go.Sort.SWO (ltOf (keyCmp key)) where
  irrefl x := by rw [ltKey]; exact bl_irrefl _
  trans x y z h1 h2 := by rw [ltKey] at *; exact bl_trans h1 h2
  ntrans x y z h1 h2 := by rw [ltKey] at *; exact bl_ntrans h1 h2
/-- None is less than one ahead of it. -/
def Ordered (key : α → ByteArray) (l : List α) : Prop := l.Pairwise fun x y => Op.bytesLess (key y).toList (key x).toList = false
theorem ordered_of [Inhabited α] (key : α → ByteArray) (l m : List α) (hl : m.length = l.length) (hp : Go.Sort.PermIn 0 l.length l.toArray m.toArray) (hs : Go.Sort.SortedIn (ltOf (keyCmp key)) 0 l.length m.toArray) : m.Perm l ∧ Ordered key m := by
  obtain ⟨h1, _, h3⟩ := hp
  refine ⟨?_, ?_⟩
  · have e1 : (m.toArray.extract 0 l.length).toList = m := by simp [← hl]
    have e2 : (l.toArray.extract 0 l.length).toList = l := by simp
    rw [e1, e2] at h3
    exact h3
  · unfold Ordered
    rw [List.pairwise_iff_getElem]
    intro i j hi hj hij
    have := hs i j (Nat.zero_le _) hij (by omega)
    rw [ltKey, getElem!_pos _ _ (by simpa using hj), getElem!_pos _ _ (by simpa using hi)] at this
    simpa using this
/-- There is one order of rows of unlike texts. -/
theorem ordered_unique (key : α → ByteArray) (l m : List α) (hp : l.Perm m) (hl : Ordered key l) (hm : Ordered key m) (hk : ∀ x, x ∈ l → ∀ y, y ∈ l → (key x).toList = (key y).toList → x = y) : l = m := by
  refine List.Perm.eq_of_pairwise ?_ hl hm hp
  intro a b ha hb h1 h2
  exact hk a ha b (hp.mem_iff.2 hb) (bl_total h2 h1)
/-- The insertion sort. -/
def insSort (key : α → ByteArray) (l : List α) [Inhabited α] : List α := (Go.Sort.insertionSort (ltOf (keyCmp key)) l.toArray 0 l.length).toList
theorem insSort_sorts [Inhabited α] (key : α → ByteArray) (l : List α) : (insSort key l).length = l.length ∧ (insSort key l).Perm l ∧ Ordered key (insSort key l) := by
  have h := Go.Sort.insertionSort_holds (lt := ltOf (keyCmp key)) (swoKey key) l.toArray 0 l.length (Nat.zero_le _) (by simp)
  have e0 : Go.Sort.insertionSort (ltOf (keyCmp key)) l.toArray 0 l.length = (insSort key l).toArray := by simp [insSort]
  rw [e0] at h
  have hlen : (insSort key l).length = l.length := by simpa using h.1.1
  obtain ⟨a, b⟩ := ordered_of key l (insSort key l) hlen h.1 h.2
  exact ⟨hlen, a, b⟩
end Go.SortKey
