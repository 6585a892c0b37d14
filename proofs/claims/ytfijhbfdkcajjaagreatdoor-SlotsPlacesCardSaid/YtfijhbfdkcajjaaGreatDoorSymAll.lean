/- slices.SortStableFunc at up to 300 rows of unlike Ids. -/
import Derived.Sort.LotA
import Derived.Test.YtfijhbfdkcajjaaGreatDoorRSort
import Derived.BigRegion
import Derived.Shelf.SlSortCmp.InsertionK
import Derived.Deep.DeepCutAuto
import Derived.Deep.LoopGhost
import Derived.Deep.CutRange
/- Plain: two runs in order, merged in place by turns of blocks. -/
namespace Go.SymSort
open Go.Sort
variable {α : Type} [Inhabited α]
set_option linter.unusedSectionVars false
set_option linter.unusedVariables false
/-- n exchanges of two blocks' places. -/
def swapR (d : Array α) (a b : Nat) : Nat → Array α
  | 0 => d
  | i + 1 => swp (swapR d a b i) (a + i) (b + i)
theorem size_swapR (d : Array α) (a b : Nat) : ∀ i, (swapR d a b i).size = d.size
  | 0 => rfl
  | i + 1 => by rw [swapR, size_swp, size_swapR d a b i]
theorem swapR_perm (lo hi : Nat) (d : Array α) (a b : Nat) (hd : hi ≤ d.size) (ha : lo ≤ a) (hb : lo ≤ b) : ∀ i, a + i ≤ hi → b + i ≤ hi → PermIn lo hi d (swapR d a b i)
  | 0, _, _ => permIn_refl d lo hi
  | i + 1, h1, h2 => permIn_trans _ _ _ _ _ (swapR_perm lo hi d a b hd ha hb i (by omega) (by omega)) (swp_permIn _ lo hi (a + i) (b + i) (by omega) (by omega) (by omega) (by omega) (by rw [size_swapR]; exact hd))
theorem swapR_get (d : Array α) (a b n : Nat) (hab : a + n ≤ b) (hb : b + n ≤ d.size) : ∀ i, i ≤ n → ∀ k, (swapR d a b i)[k]! = if a ≤ k ∧ k < a + i then d[k - a + b]! else if b ≤ k ∧ k < b + i then d[k - b + a]! else d[k]!
  | 0, _, k => by rw [if_neg (by omega), if_neg (by omega)]; rfl
  | i + 1, hi, k => by
    have ih := swapR_get d a b n hab hb i (by omega)
    rw [swapR, swp_get _ (by rw [size_swapR]; omega) (by rw [size_swapR]; omega), ih, ih, ih]
    by_cases h1 : k = b + i
    · subst h1
      rw [if_pos rfl, if_neg (by omega), if_neg (by omega), if_neg (by omega), if_pos (by omega)]
      congr 1; omega
    · rw [if_neg h1]
      by_cases h2 : k = a + i
      · subst h2
        rw [if_pos rfl, if_neg (by omega), if_neg (by omega), if_pos (by omega)]
        congr 1; omega
      · rw [if_neg h2]
        by_cases h3 : a ≤ k ∧ k < a + i
        · rw [if_pos h3, if_pos (by omega)]
        · rw [if_neg h3]
          by_cases h4 : b ≤ k ∧ k < b + i
          · rw [if_pos h4, if_neg (by omega), if_pos (by omega)]
          · rw [if_neg h4, if_neg (by omega), if_neg (by omega)]
/-- What two blocks, turned about their border, come to. -/
def turned (d : Array α) (a m b : Nat) (k : Nat) : α := if a ≤ k ∧ k < a + (b - m) then d[k + (m - a)]! else if a + (b - m) ≤ k ∧ k < b then d[k - (b - m)]! else d[k]!
/-- On the way to it: i and j places are still to be turned about m. -/
def TurnInv (t : Nat → α) (m i j : Nat) (dk : Array α) : Prop :=
  (∀ k, m - i ≤ k → k < m - i + j → t k = dk[k + i]!) ∧ (∀ k, m - i + j ≤ k → k < m + j → t k = dk[k - j]!) ∧ ∀ k, k < m - i ∨ m + j ≤ k → t k = dk[k]!
theorem turn_start (d : Array α) (a m b : Nat) (h1 : a ≤ m) (h2 : m ≤ b) : TurnInv (turned d a m b) m (m - a) (b - m) d := by
  refine ⟨fun k h3 h4 => ?_, fun k h3 h4 => ?_, fun k h3 => ?_⟩
  · unfold turned; rw [if_pos (by omega)]
  · unfold turned; rw [if_neg (by omega), if_pos (by omega)]
  · unfold turned; rw [if_neg (by omega), if_neg (by omega)]
theorem turn_left (t : Nat → α) (m i j : Nat) (dk : Array α) (h : TurnInv t m i j dk) (hi : i ≤ m) (hij : j < i) (hd : m + j ≤ dk.size) : TurnInv t m (i - j) j (swapR dk (m - i) m j) := by
  obtain ⟨h1, h2, h3⟩ := h
  have g := swapR_get dk (m - i) m j (by omega) (by omega) j (Nat.le_refl _)
  refine ⟨fun k h4 h5 => ?_, fun k h4 h5 => ?_, fun k h4 => ?_⟩
  · rw [g]
    by_cases c : m ≤ k + (i - j)
    · rw [if_neg (by omega), if_pos (by omega), h2 k (by omega) (by omega)]
      congr 1; omega
    · omega
  · rw [g, if_neg (by omega), if_neg (by omega), h2 k (by omega) (by omega)]
  · rw [g]
    by_cases c : m - i ≤ k ∧ k < m - i + j
    · rw [if_pos c, h1 k (by omega) (by omega)]
      congr 1; omega
    · rw [if_neg c, if_neg (by omega), h3 k (by omega)]
theorem turn_right (t : Nat → α) (m i j : Nat) (dk : Array α) (h : TurnInv t m i j dk) (hi : i ≤ m) (hij : i < j) (hd : m + j ≤ dk.size) : TurnInv t m i (j - i) (swapR dk (m - i) (m + j - i) i) := by
  obtain ⟨h1, h2, h3⟩ := h
  have g := swapR_get dk (m - i) (m + j - i) i (by omega) (by omega) i (Nat.le_refl _)
  refine ⟨fun k h4 h5 => ?_, fun k h4 h5 => ?_, fun k h4 => ?_⟩
  · rw [g, if_neg (by omega), if_neg (by omega), h1 k (by omega) (by omega)]
  · rw [g, if_pos (by omega), h1 k (by omega) (by omega)]
    congr 1; omega
  · rw [g]
    by_cases c : m + j - i ≤ k ∧ k < m + j - i + i
    · rw [if_neg (by omega), if_pos c, h2 k (by omega) (by omega)]
      congr 1; omega
    · rw [if_neg (by omega), if_neg c, h3 k (by omega)]
theorem turn_end (t : Nat → α) (m i : Nat) (dk : Array α) (h : TurnInv t m i i dk) (hi : i ≤ m) (hd : m + i ≤ dk.size) : ∀ k, (swapR dk (m - i) m i)[k]! = t k := by
  obtain ⟨h1, h2, h3⟩ := h
  have g := swapR_get dk (m - i) m i (by omega) (by omega) i (Nat.le_refl _)
  intro k
  rw [g]
  by_cases c : m - i ≤ k ∧ k < m - i + i
  · rw [if_pos c, h1 k (by omega) (by omega)]
    congr 1; omega
  · rw [if_neg c]
    by_cases e : m ≤ k ∧ k < m + i
    · rw [if_pos e, h2 k (by omega) (by omega)]
      congr 1; omega
    · rw [if_neg e, h3 k (by omega)]
/-! ### the border found by halving -/
/-- How far one half of two runs in order has been searched: all ahead of s may stay, none from r on may. -/
def SymInv (lt : α → α → Bool) (d : Array α) (p lo hi s r : Nat) : Prop :=
  lo ≤ s ∧ s ≤ r ∧ r ≤ hi ∧ (∀ c, lo ≤ c → c < s → lt d[p - c]! d[c]! = false) ∧ ∀ c, r ≤ c → c < hi → lt d[p - c]! d[c]! = true
variable {lt : α → α → Bool}
theorem SWO.le_trans' (h : SWO lt) {x y z : α} (h1 : lt y x = false) (h2 : lt z y = false) : lt z x = false := h.ntrans z y x h2 h1
/-- What two halves in order, with all of the left below all of the right, come to. -/
theorem joined_sorted (a c b : Nat) (d : Array α) (h1 : SortedIn lt a c d) (h2 : SortedIn lt c b d) (h3 : ∀ i j, a ≤ i → i < c → c ≤ j → j < b → lt d[j]! d[i]! = false) : SortedIn lt a b d := by
  intro i j hi hij hj
  by_cases e1 : j < c
  · exact h1 i j hi hij e1
  · by_cases e2 : c ≤ i
    · exact h2 i j e2 hij hj
    · exact h3 i j hi (by omega) (by omega) hj
theorem perm_cross (a c b : Nat) (d d' d'' : Array α) (hb : b ≤ d.size) (hac : a ≤ c) (hcb : c ≤ b) (h1 : PermIn a c d d') (h2 : PermIn c b d' d'') (h3 : ∀ i j, a ≤ i → i < c → c ≤ j → j < b → lt d[j]! d[i]! = false) : ∀ i j, a ≤ i → i < c → c ≤ j → j < b → lt d''[j]! d''[i]! = false := by
  have e1 : ∀ i, a ≤ i → i < c → ∀ j, c ≤ j → j < b → lt d[j]! d'[i]! = false :=
    permIn_all d d' a c (fun x => ∀ j, c ≤ j → j < b → lt d[j]! x = false) (by omega) h1 (fun i hi hic j hcj hjb => h3 i j hi hic hcj hjb)
  have e2 : ∀ j, c ≤ j → j < b → ∀ i, a ≤ i → i < c → lt d''[j]! d'[i]! = false :=
    permIn_all d' d'' c b (fun x => ∀ i, a ≤ i → i < c → lt x d'[i]! = false) (by rw [h1.1]; exact hb) h2 (fun j hj hjb i hi hic => by
      rw [h1.2.1 j (by omega)]; exact e1 i hi hic j hj hjb)
  intro i j hi hic hj hjb
  rw [h2.2.1 i (by omega)]
  exact e2 j hj hjb i hi hic
/-- A run in order that stays where it lies, seen behind a change elsewhere. -/
theorem sorted_same (a b : Nat) (d d' : Array α) (h : SortedIn lt a b d) (e : ∀ i, a ≤ i → i < b → d'[i]! = d[i]!) : SortedIn lt a b d' := by
  intro i j hi hij hj
  rw [e i hi (by omega), e j (by omega) hj]
  exact h i j hi hij hj
/-- The halves of a merge behind the turn. -/
theorem sym_parts (h : SWO lt) (d : Array α) (a m b mid lo hi s : Nat) (ham : a ≤ m) (hmb : m ≤ b) (hmid : mid = (a + b) / 2)
    (hlo : lo = if mid < m then mid + m - b else a) (hhi : hi = if mid < m then mid else m) (hs1 : SortedIn lt a m d) (hs2 : SortedIn lt m b d)
    (hI : SymInv lt d (mid + m - 1) lo hi s s) (h2 : 2 ≤ b - a) (t : Array α) (ht : ∀ k, t[k]! = turned d s m (mid + m - s) k) :
    (a ≤ s ∧ s ≤ mid ∧ s ≤ m ∧ m ≤ mid + m - s ∧ mid ≤ mid + m - s ∧ mid + m - s ≤ b) ∧ SortedIn lt a s t ∧ SortedIn lt s mid t ∧ SortedIn lt mid (mid + m - s) t ∧ SortedIn lt (mid + m - s) b t ∧ ∀ i j, a ≤ i → i < mid → mid ≤ j → j < b → lt t[j]! t[i]! = false := by
  obtain ⟨i1, i2, i3, i4, i5⟩ := hI
  have hb : a ≤ s ∧ s ≤ mid ∧ s ≤ m ∧ m ≤ mid + m - s ∧ mid ≤ mid + m - s ∧ mid + m - s ≤ b := by
    by_cases c : mid < m
    · rw [if_pos c] at hlo hhi; omega
    · rw [if_neg c] at hlo hhi; omega
  obtain ⟨b1, b2, b3, b4, b5, b6⟩ := hb
  have t1 : ∀ k, a ≤ k → k < s → t[k]! = d[k]! := fun k h1 h2 => by rw [ht]; unfold turned; rw [if_neg (by omega), if_neg (by omega)]
  have t2 : ∀ k, s ≤ k → k < mid → t[k]! = d[k + (m - s)]! := fun k h1 h2 => by rw [ht]; unfold turned; rw [if_pos (by omega)]
  have t3 : ∀ k, mid ≤ k → k < mid + m - s → t[k]! = d[k - (mid - s)]! := fun k h1 h2 => by
    rw [ht]; unfold turned; rw [if_neg (by omega), if_pos (by omega)]; congr 1; omega
  have t4 : ∀ k, mid + m - s ≤ k → k < b → t[k]! = d[k]! := fun k h1 h2 => by rw [ht]; unfold turned; rw [if_neg (by omega), if_neg (by omega)]
  -- the four old runs
  have o1 : ∀ i j, a ≤ i → i ≤ j → j < m → lt d[j]! d[i]! = false := fun i j h1 h2 h3 => by
    rcases Nat.eq_or_lt_of_le h2 with rfl | h4
    · exact h.irrefl _
    · exact hs1 i j h1 h4 h3
  have o2 : ∀ i j, m ≤ i → i ≤ j → j < b → lt d[j]! d[i]! = false := fun i j h1 h2 h3 => by
    rcases Nat.eq_or_lt_of_le h2 with rfl | h4
    · exact h.irrefl _
    · exact hs2 i j h1 h4 h3
  -- the crossings
  have x1 : ∀ i j, m ≤ i → i < mid + m - s → s ≤ j → j < m → lt d[j]! d[i]! = false := fun i j h1 h2 h3 h4 => by
    have hlt : s < hi := by
      by_cases c : mid < m
      · rw [if_pos c] at hhi; omega
      · rw [if_neg c] at hhi; omega
    have e := i5 s (Nat.le_refl _) hlt
    have e1 : lt d[s]! d[mid + m - 1 - s]! = false := SWO.asymmA h e
    have e2 : lt d[mid + m - 1 - s]! d[i]! = false := o2 i _ h1 (by omega) (by omega)
    have e3 : lt d[j]! d[s]! = false := o1 s j b1 h3 h4
    exact SWO.le_trans' h (SWO.le_trans' h e2 e1) e3
  have x2 : ∀ i j, a ≤ i → i < s → mid + m - s ≤ j → j < b → lt d[j]! d[i]! = false := fun i j h1 h2 h3 h4 => by
    have hlt : lo ≤ s - 1 ∧ s - 1 < s := by
      by_cases c : mid < m
      · rw [if_pos c] at hlo; omega
      · rw [if_neg c] at hlo; omega
    have e := i4 (s - 1) hlt.1 hlt.2
    rw [show mid + m - 1 - (s - 1) = mid + m - s by omega] at e
    have e2 : lt d[s - 1]! d[i]! = false := o1 i _ h1 (by omega) (by omega)
    have e3 : lt d[j]! d[mid + m - s]! = false := o2 _ j (by omega) h3 h4
    exact SWO.le_trans' h (SWO.le_trans' h e2 e) e3
  refine ⟨⟨b1, b2, b3, b4, b5, b6⟩, ?_, ?_, ?_, ?_, ?_⟩
  · intro i j hi hij hj
    rw [t1 i hi (by omega), t1 j (by omega) hj]; exact o1 i j hi (by omega) (by omega)
  · intro i j hi hij hj
    rw [t2 i hi (by omega), t2 j (by omega) hj]; exact o2 _ _ (by omega) (by omega) (by omega)
  · intro i j hi hij hj
    rw [t3 i hi (by omega), t3 j (by omega) hj]; exact o1 _ _ (by omega) (by omega) (by omega)
  · intro i j hi hij hj
    rw [t4 i hi (by omega), t4 j (by omega) hj]; exact o2 _ _ (by omega) (by omega) (by omega)
  · intro i j hi hic hj hjb
    by_cases c1 : i < s
    · rw [t1 i hi c1]
      by_cases c2 : j < mid + m - s
      · rw [t3 j hj c2]; exact o1 _ _ hi (by omega) (by omega)
      · rw [t4 j (by omega) hjb]; exact x2 i j hi c1 (by omega) hjb
    · rw [t2 i (by omega) hic]
      by_cases c2 : j < mid + m - s
      · rw [t3 j hj c2]; exact x1 _ _ (by omega) (by omega) (by omega) (by omega)
      · rw [t4 j (by omega) hjb]; exact o2 _ _ (by omega) (by omega) hjb
theorem sym_yes (h : SWO lt) (d : Array α) (a m b mid lo hi s r c : Nat) (hs1 : SortedIn lt a m d) (hs2 : SortedIn lt m b d) (hI : SymInv lt d (mid + m - 1) lo hi s r) (hc1 : s ≤ c) (hc2 : c < r) (hlo : a ≤ lo) (hhi : hi ≤ m) (hmid : hi ≤ mid) (hb : mid + m - 1 - lo < b) (hl : lt d[mid + m - 1 - c]! d[c]! = true) : SymInv lt d (mid + m - 1) lo hi s c := by
  obtain ⟨i1, i2, i3, i4, i5⟩ := hI
  refine ⟨i1, hc1, by omega, i4, fun x h1 h2 => ?_⟩
  rcases Nat.eq_or_lt_of_le h1 with rfl | h3
  · exact hl
  · cases e : lt d[mid + m - 1 - x]! d[x]! with
    | true => rfl
    | false =>
      have q1 : lt d[x]! d[c]! = false := hs1 c x (by omega) h3 (by omega)
      have q2 : lt d[mid + m - 1 - c]! d[mid + m - 1 - x]! = false := hs2 _ _ (by omega) (by omega) (by omega)
      rw [h.ntrans _ _ _ (h.ntrans _ _ _ q2 e) q1] at hl
      cases hl
theorem sym_no (h : SWO lt) (d : Array α) (a m b mid lo hi s r c : Nat) (hs1 : SortedIn lt a m d) (hs2 : SortedIn lt m b d) (hI : SymInv lt d (mid + m - 1) lo hi s r) (hc1 : s ≤ c) (hc2 : c < r) (hlo : a ≤ lo) (hhi : hi ≤ m) (hmid : hi ≤ mid) (hb : mid + m - 1 - lo < b) (hl : lt d[mid + m - 1 - c]! d[c]! = false) : SymInv lt d (mid + m - 1) lo hi (c + 1) r := by
  obtain ⟨i1, i2, i3, i4, i5⟩ := hI
  refine ⟨by omega, by omega, i3, fun x h1 h2 => ?_, i5⟩
  rcases Nat.eq_or_lt_of_le (show x ≤ c by omega) with rfl | h3
  · exact hl
  · have q1 : lt d[c]! d[x]! = false := hs1 x c (by omega) h3 (by omega)
    have q2 : lt d[mid + m - 1 - x]! d[mid + m - 1 - c]! = false := hs2 _ _ (by omega) (by omega) (by omega)
    exact h.ntrans _ _ _ (h.ntrans _ _ _ q2 hl) q1
/-! ### one row carried to its place -/
/-- A row carried right by t places. -/
def carR (d : Array α) (a : Nat) : Nat → Array α
  | 0 => d
  | t + 1 => swp (carR d a t) (a + t) (a + t + 1)
theorem size_carR (d : Array α) (a : Nat) : ∀ t, (carR d a t).size = d.size
  | 0 => rfl
  | t + 1 => by rw [carR, size_swp, size_carR d a t]
theorem carR_perm (d : Array α) (a b : Nat) (hb : b ≤ d.size) : ∀ t, a + t < b → PermIn a b d (carR d a t)
  | 0, _ => permIn_refl d a b
  | t + 1, h => permIn_trans _ _ _ _ _ (carR_perm d a b hb t (by omega)) (swp_permIn _ a b (a + t) (a + t + 1) (by omega) (by omega) (by omega) (by omega) (by rw [size_carR]; exact hb))
theorem carR_get (d : Array α) (a : Nat) : ∀ t, a + t < d.size → ∀ x, (carR d a t)[x]! = if a ≤ x ∧ x < a + t then d[x + 1]! else if x = a + t then d[a]! else d[x]!
  | 0, _, x => by
    rw [if_neg (by omega)]
    by_cases h : x = a + 0
    · rw [if_pos h, h]; rfl
    · rw [if_neg h]; rfl
  | t + 1, h, x => by
    have ih := carR_get d a t (by omega)
    rw [carR, swp_get _ (by rw [size_carR]; omega) (by rw [size_carR]; omega), ih, ih, ih]
    by_cases h1 : x = a + t + 1
    · subst h1
      rw [if_pos rfl, if_neg (by omega), if_pos rfl, if_neg (by omega), if_pos (by omega)]
    · rw [if_neg h1]
      by_cases h2 : x = a + t
      · subst h2
        rw [if_pos rfl, if_neg (by omega), if_neg (by omega), if_pos (by omega)]
      · rw [if_neg h2]
        by_cases h3 : a ≤ x ∧ x < a + t
        · rw [if_pos h3, if_pos (by omega)]
        · rw [if_neg h3, if_neg h2, if_neg (by omega), if_neg (by omega)]
/-- A row carried left by t places. -/
def carL (d : Array α) (m : Nat) : Nat → Array α
  | 0 => d
  | t + 1 => swp (carL d m t) (m - t) (m - t - 1)
theorem size_carL (d : Array α) (m : Nat) : ∀ t, (carL d m t).size = d.size
  | 0 => rfl
  | t + 1 => by rw [carL, size_swp, size_carL d m t]
theorem carL_perm (d : Array α) (a m : Nat) (hb : m + 1 ≤ d.size) : ∀ t, a + t ≤ m → PermIn a (m + 1) d (carL d m t)
  | 0, _ => permIn_refl d a (m + 1)
  | t + 1, h => permIn_trans _ _ _ _ _ (carL_perm d a m hb t (by omega)) (swp_permIn _ a (m + 1) (m - t) (m - t - 1) (by omega) (by omega) (by omega) (by omega) (by rw [size_carL]; exact hb))
theorem carL_get (d : Array α) (m : Nat) (hm : m < d.size) : ∀ t, t ≤ m → ∀ x, (carL d m t)[x]! = if m - t < x ∧ x ≤ m then d[x - 1]! else if x = m - t then d[m]! else d[x]!
  | 0, _, x => by
    rw [if_neg (by omega)]
    by_cases h : x = m - 0
    · rw [if_pos h, h]; rfl
    · rw [if_neg h]; rfl
  | t + 1, h, x => by
    have ih := carL_get d m hm t (by omega)
    rw [carL, swp_get _ (by rw [size_carL]; omega) (by rw [size_carL]; omega), ih, ih, ih]
    by_cases h1 : x = m - t - 1
    · subst h1
      rw [if_pos rfl, if_neg (by omega), if_pos rfl, if_neg (by omega), if_pos (by omega)]
    · rw [if_neg h1]
      by_cases h2 : x = m - t
      · subst h2
        rw [if_pos rfl, if_neg (by omega), if_neg (by omega), if_pos (by omega)]
      · rw [if_neg h2]
        by_cases h3 : m - t < x ∧ x ≤ m
        · rw [if_pos h3, if_pos (by omega)]
        · rw [if_neg h3, if_neg h2, if_neg (by omega), if_neg (by omega)]
theorem one_left (h : SWO lt) (d : Array α) (a b i : Nat) (hb : b ≤ d.size) (hs : SortedIn lt (a + 1) b d) (h1 : ∀ c, a + 1 ≤ c → c < i → lt d[c]! d[a]! = true) (h2 : ∀ c, i ≤ c → c < b → lt d[c]! d[a]! = false) (hi : a + 1 ≤ i) (hib : i ≤ b) : SortedIn lt a b (carR d a (i - 1 - a)) := by
  have g := carR_get d a (i - 1 - a) (by omega)
  intro x y hx hxy hy
  rw [g, g]
  by_cases c1 : x < i - 1
  · rw [if_pos (show a ≤ x ∧ x < a + (i - 1 - a) by omega)]
    by_cases c2 : y < i - 1
    · rw [if_pos (by omega)]; exact hs _ _ (by omega) (by omega) (by omega)
    · rw [if_neg (by omega)]
      by_cases c3 : y = i - 1
      · rw [if_pos (by omega)]; exact SWO.asymmA h (h1 _ (by omega) (by omega))
      · rw [if_neg (by omega)]; exact hs _ _ (by omega) (by omega) (by omega)
  · rw [if_neg (show ¬ (a ≤ y ∧ y < a + (i - 1 - a)) by omega), if_neg (show ¬ (y = a + (i - 1 - a)) by omega), if_neg (show ¬ (a ≤ x ∧ x < a + (i - 1 - a)) by omega)]
    by_cases c3 : x = i - 1
    · rw [if_pos (by omega)]; exact h2 _ (by omega) (by omega)
    · rw [if_neg (by omega)]; exact hs _ _ (by omega) (by omega) (by omega)
theorem one_right (h : SWO lt) (d : Array α) (a m i : Nat) (hm : m < d.size) (hs : SortedIn lt a m d) (h1 : ∀ c, a ≤ c → c < i → lt d[m]! d[c]! = false) (h2 : ∀ c, i ≤ c → c < m → lt d[m]! d[c]! = true) (hi : a ≤ i) (him : i ≤ m) : SortedIn lt a (m + 1) (carL d m (m - i)) := by
  have g := carL_get d m hm (m - i) (by omega)
  intro x y hx hxy hy
  rw [g, g]
  by_cases c1 : x < i
  · rw [if_neg (show ¬ (m - (m - i) < x ∧ x ≤ m) by omega), if_neg (show ¬ (x = m - (m - i)) by omega)]
    by_cases c2 : y < i
    · rw [if_neg (by omega), if_neg (by omega)]; exact hs _ _ (by omega) (by omega) (by omega)
    · by_cases c3 : y = i
      · rw [if_neg (by omega), if_pos (by omega)]; exact h1 _ (by omega) (by omega)
      · rw [if_pos (by omega)]; exact hs _ _ (by omega) (by omega) (by omega)
  · rw [if_pos (show m - (m - i) < y ∧ y ≤ m by omega)]
    by_cases c3 : x = i
    · rw [if_neg (by omega), if_pos (by omega)]; exact SWO.asymmA h (h2 _ (by omega) (by omega))
    · rw [if_pos (by omega)]; exact hs _ _ (by omega) (by omega) (by omega)
/-! ### runs of equal size -/
/-- Each run of s rows is in order (s: 20, 40, 80, 160, 320). -/
def Runs (lt : α → α → Bool) (s n : Nat) (d : Array α) : Prop := ∀ i j, i < j → j < n → i / s = j / s → lt d[j]! d[i]! = false
/-- On the way: runs of 2 s up to a, of s from there. -/
def Mid (lt : α → α → Bool) (s n a : Nat) (d : Array α) : Prop := (∀ i j, i < j → j < n → j < a → i / (2 * s) = j / (2 * s) → lt d[j]! d[i]! = false) ∧ ∀ i j, a ≤ i → i < j → j < n → i / s = j / s → lt d[j]! d[i]! = false
def Size4 (s : Nat) : Prop := s = 20 ∨ s = 40 ∨ s = 80 ∨ s = 160
theorem mid_start (s n : Nat) (d : Array α) (h : Runs lt s n d) : Mid lt s n 0 d := ⟨fun i j _ _ h3 _ => absurd h3 (by omega), fun i j _ h2 h3 h4 => h i j h2 h3 h4⟩
theorem mid_runs (s n a u : Nat) (d : Array α) (hs : Size4 s) (ha : a = u * (2 * s)) (h : Mid lt s n a d) : (∀ b, b ≤ n → b ≤ a + s → SortedIn lt a b d) ∧ ∀ b, b ≤ n → b ≤ a + 2 * s → SortedIn lt (a + s) b d := by
  refine ⟨fun b h1 h2 i j h3 h4 h5 => h.2 i j h3 h4 (by omega) ?_, fun b h1 h2 i j h3 h4 h5 => h.2 i j (by omega) h4 (by omega) ?_⟩
  · rcases hs with rfl | rfl | rfl | rfl <;> omega
  · rcases hs with rfl | rfl | rfl | rfl <;> omega
theorem mid_step (s n a b u : Nat) (d d' : Array α) (hs : Size4 s) (ha : a = u * (2 * s)) (hb : b = a + 2 * s) (hbn : b ≤ n) (h : Mid lt s n a d) (hp : PermIn a b d d') (ho : SortedIn lt a b d') : Mid lt s n b d' := by
  refine ⟨fun i j h1 h2 h3 h4 => ?_, fun i j h1 h2 h3 h4 => ?_⟩
  · by_cases c : a ≤ i
    · exact ho i j c h1 h3
    · have hj : j < a := by rcases hs with rfl | rfl | rfl | rfl <;> omega
      rw [hp.2.1 i (by omega), hp.2.1 j (by omega)]
      exact h.1 i j h1 h2 hj h4
  · rw [hp.2.1 i (by omega), hp.2.1 j (by omega)]
    exact h.2 i j (by omega) h2 h3 h4
theorem mid_last (s n a u : Nat) (d d' : Array α) (hs : Size4 s) (ha : a = u * (2 * s)) (hn : n < a + 2 * s) (h : Mid lt s n a d) (hp : PermIn a n d d') (ho : SortedIn lt a n d') : Runs lt (2 * s) n d' := by
  intro i j h1 h2 h4
  by_cases c : a ≤ i
  · exact ho i j c h1 h2
  · have hj : j < a := by rcases hs with rfl | rfl | rfl | rfl <;> omega
    rw [hp.2.1 i (by omega), hp.2.1 j (by omega)]
    exact h.1 i j h1 h2 hj h4
theorem mid_short (s n a u : Nat) (d : Array α) (hs : Size4 s) (ha : a = u * (2 * s)) (hn : n ≤ a + s) (h : Mid lt s n a d) : Runs lt (2 * s) n d := by
  intro i j h1 h2 h4
  by_cases c : a ≤ i
  · exact h.2 i j c h1 h2 (by rcases hs with rfl | rfl | rfl | rfl <;> omega)
  · exact h.1 i j h1 h2 (by rcases hs with rfl | rfl | rfl | rfl <;> omega) h4
theorem runs_all (s n : Nat) (d : Array α) (hn : n ≤ s) (h : Runs lt s n d) : SortedIn lt 0 n d := fun i j _ h2 h3 => h i j h2 h3 (by rw [Nat.div_eq_of_lt (by omega), Nat.div_eq_of_lt (by omega)])
/-- The first runs, of 20. -/
theorem first_step (n a b u : Nat) (d d' : Array α) (ha : a = u * 20) (hbn : b ≤ n) (h : ∀ i j, i < j → j < a → i / 20 = j / 20 → lt d[j]! d[i]! = false) (hp : PermIn a b d d') (ho : SortedIn lt a b d') : ∀ i j, i < j → j < b → i / 20 = j / 20 → lt d'[j]! d'[i]! = false := by
  intro i j h1 h2 h3
  by_cases c : a ≤ i
  · exact ho i j c h1 h2
  · rw [hp.2.1 i (by omega), hp.2.1 j (by omega)]
    exact h i j h1 (by omega) h3
end Go.SymSort

/- The contract of slices.swapRangeCmpFunc at rows. -/
namespace Go.Proofs.YtfijhbfdkcajjaaGreatDoor.Pr
open Go.RowKit Go.Proofs.YtfijhbfdkcajjaaGreatDoorW.PrintWords Go.Proofs.YtfijhbfdkcajjaaGreatDoorW.PrintLast Go.Proofs.YtfijhbfdkcajjaaGreatDoorW.PrintMore Go.SortKey Go.Shelf Go.Sort Go.Lib Go.SymSort
set_option linter.unusedVariables false
set_option linter.unusedSimpArgs false
/-- What an exchange of two rows asks and does: two loads and two runs of stores, as equations. -/
theorem swap_eqs (g : Nat) (d dk : Array S45) (m : Nat) (os : Array Obj) (w : World) (hH : HoldsK encR 3 w g 0 d) (hg : g < w.heap.size) (hs : dk.size = d.size) (i j : Nat) (hi : i < dk.size) (hj : j < dk.size) :
    ∃ (k3 : Nat) (cI cJ : List Value), (∀ w, Sem.run Tryz.prog (Go.sizeOf 45) w = .ok k3 w) ∧ cI.length = k3 ∧ cJ.length = k3 ∧
      Sem.run Tryz.prog (loadCellsFrom ⟨g, i * 3, none⟩ 0 k3 #[]) (sortWorldK encR 3 w g 0 m dk os).drew = .ok cI.toArray (sortWorldK encR 3 w g 0 m dk os).drew ∧
      Sem.run Tryz.prog (loadCellsFrom ⟨g, j * 3, none⟩ 0 k3 #[]) (sortWorldK encR 3 w g 0 m dk os).drew = .ok cJ.toArray (sortWorldK encR 3 w g 0 m dk os).drew ∧
      Sem.run Tryz.prog (storeCells ⟨g, i * 3, none⟩ cJ 0) (sortWorldK encR 3 w g 0 m dk os).drew = .ok () ((sortWorldK encR 3 w g 0 m dk os).drew.setCells g (i * 3) cJ) ∧
      Sem.run Tryz.prog (storeCells ⟨g, j * 3, none⟩ cI 0) ((sortWorldK encR 3 w g 0 m dk os).drew.setCells g (i * 3) cJ) = .ok () (((sortWorldK encR 3 w g 0 m dk os).drew.setCells g (i * 3) cJ).setCells g (j * 3) cI) ∧
      ((sortWorldK encR 3 w g 0 m dk os).drew.setCells g (i * 3) cJ).setCells g (j * 3) cI = sortWorldK encR 3 w g 0 (m + 1) (swp dk i j) os := by
  have hHd : HoldsK encR 3 (sortWorldK encR 3 w g 0 m dk os).drew g 0 dk := holdsK_sortWorldK_c encR 3 w g 0 d dk m os hH hg hs
  have hsw := sortWorldK_swp_c encR 3 w g 0 encR_len m dk os hg i j hi hj
  rw [Nat.zero_add, Nat.zero_add] at hsw
  generalize (sortWorldK encR 3 w g 0 m dk os).drew = wq at hHd hsw ⊢
  have bnd : ∀ x, x < dk.size → x * 3 + 3 ≤ dk.size * 3 := fun x hx => by omega
  refine ⟨3, encR dk[i]!, encR dk[j]!, Tryz.sizeOf45, encR_len _, encR_len _, ?_, ?_, ?_, ?_, hsw⟩
  · have h_ := run_loadCellsFrom_list Tryz.prog _ _ _ 3 (encR_len _) (HoldsK.cells hHd encR_len (i := i) hi)
    rw [Nat.zero_add] at h_
    exact h_
  · have h_ := run_loadCellsFrom_list Tryz.prog _ _ _ 3 (encR_len _) (HoldsK.cells hHd encR_len (i := j) hj)
    rw [Nat.zero_add] at h_
    exact h_
  · have h_ := stores_of_holds Tryz.prog hHd (i * 3) (encR dk[j]!) (by rw [encR_len, size_flatK]; exact bnd i hi) (encR_one _)
    rw [Nat.zero_add] at h_
    exact h_
  · have h_ := stores_of_holds Tryz.prog (holds_setCells_c hHd (i * 3) (encR dk[j]!) (by rw [encR_len, size_flatK]; exact bnd i hi)) (j * 3) (encR dk[i]!) (by rw [encR_len, size_setMany, size_flatK]; exact bnd j hj) (encR_one _)
    rw [Nat.zero_add, Nat.zero_add] at h_
    exact h_
set_option maxRecDepth 100000 in
set_option maxHeartbeats 4000000 in
theorem swapRange_calls (g cap a b n : Nat) (v : Value) (d : Array S45) (w : World) (hH : HoldsK encR 3 w g 0 d) (hg : g < w.heap.size) (ha : a + n ≤ d.size) (hb : b + n ≤ d.size) (hd : d.size ≤ 100000) :
    Calls Tryz.prog 142 #[.slice (some ⟨g, 0, none⟩) d.size cap, .int .i64 (a : Int), .int .i64 (b : Int), .int .i64 (n : Int), v] w fun e w' => e = .returned (.tuple #[]) ∧ ∃ m os, w' = sortWorldK encR 3 w g 0 m (swapR d a b n) os := by
  have HST : Hid (w = sortWorldK encR 3 w g 0 0 d #[]) := by show w = _; unfold sortWorldK; rw [grow_empty]; exact (putRowK_self encR 3 w g 0 d hH).symm
  have HH : Hid (HoldsK encR 3 w g 0 d) := hH
  have HG : Hid (g < w.heap.size) := hg
  clear hH hg
  go_enter Tryz.func142, Tryz.ntmps142
  go_wp2
  go_loopg [10] n (fun g1 vi wr => ∃ (i m : Nat) (os : Array Obj), vi = .int .i64 i ∧ i ≤ n ∧ n - i ≤ g1 ∧ wr = sortWorldK encR 3 w g 0 m (swapR d a b i) os)
  case atStart => exact ⟨0, 0, #[], rfl, Nat.zero_le _, Nat.le_refl _, HST.out⟩
  case round =>
    obtain ⟨i, m, os, rfl, hin, hg1, rfl⟩ := hrel
    by_cases hlt : i < n
    · have hltz : (i : Int) < (n : Int) := by omega
      have mixed : Tryz.prog.follows Departure.mixedOrders = true := by kernel_rfl
      have ea : IntKind.i64.wrap ((a : Int) + (i : Int)) = ((a + i : Nat) : Int) := by rw [IntKind.wrap_i64]; omega
      have eb : IntKind.i64.wrap ((b : Int) + (i : Int)) = ((b + i : Nat) : Int) := by rw [IntKind.wrap_i64]; omega
      have ha0 : (0 : Int) ≤ ((a + i : Nat) : Int) := by omega
      have hb0 : (0 : Int) ≤ ((b + i : Nat) : Int) := by omega
      have ha1 : ((a + i : Nat) : Int) < (d.size : Int) := by omega
      have hb1 : ((b + i : Nat) : Int) < (d.size : Int) := by omega
      have hsz : (swapR d a b i).size = d.size := size_swapR d a b i
      obtain ⟨k3, cA, cB, zE, hsA, hsB, la, lb, s1, s2, hsw⟩ := swap_eqs g d (swapR d a b i) m os w HH.out HG.out hsz (a + i) (b + i) (by omega) (by omega)
      have HSW : Hid _ := hsw
      clear hsw hsz
      generalize hwq : sortWorldK encR 3 w g 0 m (swapR d a b i) os = wq at la lb s1 s2 HSW ⊢
      clear hwq
      go_wp2_with fail
      have aE := Tryz.isAgg45
      generalize (45 : Nat) = T at zE aE ⊢
      go_big_region_o
      all_goals go_wp2
      go_roundg (n - (i + 1))
      case measure => omega
      case rel =>
        refine ⟨i + 1, m + 1, os, by first | rfl | go_num | (congr 1; omega), by omega, Nat.le_refl _, ?_⟩
        rw [swapR, ← HSW.out]
    · have hltz : ¬ (i : Int) < (n : Int) := by omega
      go_wp2
      go_end0
      exact ⟨rfl, m, os, by rw [show n = i by omega]⟩
end Go.Proofs.YtfijhbfdkcajjaaGreatDoor.Pr

/- The contract of slices.rotateCmpFunc at rows. -/
namespace Go.Proofs.YtfijhbfdkcajjaaGreatDoor.Pr
open Go.RowKit Go.Proofs.YtfijhbfdkcajjaaGreatDoorW.PrintWords Go.Proofs.YtfijhbfdkcajjaaGreatDoorW.PrintLast Go.Proofs.YtfijhbfdkcajjaaGreatDoorW.PrintMore Go.SortKey Go.Shelf Go.Sort Go.Lib Go.SymSort
set_option linter.unusedVariables false
set_option linter.unusedSimpArgs false
theorem sw_trans (g : Nat) (d d1 d2 : Array S45) (m1 m2 : Nat) (o1 o2 : Array Obj) (w : World) (h1 : d1.size = d.size) (h2 : d2.size = d1.size) (hH : HoldsK encR 3 w g 0 d) (hg : g < w.heap.size) : sortWorldK encR 3 (sortWorldK encR 3 w g 0 m1 d1 o1) g 0 m2 d2 o2 = sortWorldK encR 3 w g 0 (m1 + m2) d2 (o1 ++ o2) := by
  unfold sortWorldK
  exact grow_step_growK encR 3 w o1 o2 m1 m2 g 0 d1 d2 hg h2
set_option maxRecDepth 100000 in
set_option maxHeartbeats 4000000 in
/-- Two blocks side by side are turned about their border. -/
theorem rotate_calls (g cap a m b : Nat) (v : Value) (d : Array S45) (w : World) (hH : HoldsK encR 3 w g 0 d) (hg : g < w.heap.size) (ham : a < m) (hmb : m < b) (hb : b ≤ d.size) (hd : d.size ≤ 100000) :
    Calls Tryz.prog 129 #[.slice (some ⟨g, 0, none⟩) d.size cap, .int .i64 (a : Int), .int .i64 (m : Int), .int .i64 (b : Int), v] w fun e w' => e = .returned (.tuple #[]) ∧ ∃ n d' os, w' = sortWorldK encR 3 w g 0 n d' os ∧ PermIn a b d d' ∧ ∀ k, d'[k]! = turned d a m b k := by
  have HST : Hid (w = sortWorldK encR 3 w g 0 0 d #[]) := by show w = _; unfold sortWorldK; rw [grow_empty]; exact (putRowK_self encR 3 w g 0 d hH).symm
  have HH : Hid (HoldsK encR 3 w g 0 d) := hH
  have HG : Hid (g < w.heap.size) := hg
  have hcall : ∀ (n : Nat) (dk : Array S45) (os : Array Obj) (x y c : Nat), PermIn a b d dk → x + c ≤ b → y + c ≤ b → Calls Tryz.prog 142 #[.slice (some ⟨g, 0, none⟩) d.size cap, .int .i64 (x : Int), .int .i64 (y : Int), .int .i64 (c : Int), v] (sortWorldK encR 3 w g 0 n dk os) fun e w' => e = .returned (.tuple #[]) ∧ ∃ n' os', w' = sortWorldK encR 3 w g 0 n' (swapR dk x y c) os' := by
    intro n dk os x y c hp hx hy
    have hs := hp.1
    have h1 := swapRange_calls g cap x y c v dk (sortWorldK encR 3 w g 0 n dk os) (holdsK_sortWorldK_c encR 3 w g 0 d dk n os HH.out HG.out hs) (Nat.lt_of_lt_of_le HG.out (size_sortWorldK_c encR 3 w g 0 n dk os)) (by omega) (by omega) (by omega)
    rw [hs] at h1
    refine h1.mono ?_
    rintro e w' ⟨rfl, n', os', rfl⟩
    exact ⟨rfl, _, _, sw_trans g d dk (swapR dk x y c) n n' os os' w hs (size_swapR dk x y c) HH.out HG.out⟩
  have HC := Aside0.mk hcall
  clear hcall hH hg
  have e1 : IntKind.i64.wrap ((m : Int) - (a : Int)) = ((m - a : Nat) : Int) := by rw [IntKind.wrap_i64]; omega
  have e2 : IntKind.i64.wrap ((b : Int) - (m : Int)) = ((b - m : Nat) : Int) := by rw [IntKind.wrap_i64]; omega
  have e1' : (m : Int) - (a : Int) = ((m - a : Nat) : Int) := by omega
  have e2' : (b : Int) - (m : Int) = ((b - m : Nat) : Int) := by omega
  go_enter Tryz.func129, Tryz.ntmps129
  go_wp2_with fail
  go_loopg [10, 11] (b - a) (fun g1 vi vj wr => ∃ (i j n : Nat) (dk : Array S45) (os : Array Obj), vi = .int .i64 i ∧ vj = .int .i64 j ∧ 0 < i ∧ 0 < j ∧ i ≤ m - a ∧ j ≤ b - m ∧ i + j ≤ g1 ∧ wr = sortWorldK encR 3 w g 0 n dk os ∧ Hid (PermIn a b d dk ∧ TurnInv (turned d a m b) m i j dk))
  case atStart => exact ⟨m - a, b - m, 0, d, #[], by go_num, by go_num, by omega, by omega, Nat.le_refl _, Nat.le_refl _, by omega, HST.out, ⟨permIn_refl _ _ _, turn_start d a m b (by omega) (by omega)⟩⟩
  case round =>
    obtain ⟨i, j, n, dk, os, rfl, rfl, hi0, hj0, hi1, hj1, hg1, rfl, hI⟩ := hrel
    have HI : Hid _ := hI
    clear hI
    have hsz : dk.size = d.size := HI.out.1.1
    have q1 : IntKind.i64.wrap ((m : Int) - (i : Int)) = ((m - i : Nat) : Int) := by rw [IntKind.wrap_i64]; omega
    by_cases hne : i = j
    · subst hne
      have hC := HC.out n dk os (m - i) m i HI.out.1 (by omega) (by omega)
      have HC2 := Aside0.mk hC
      clear hC
      generalize hwq : sortWorldK encR 3 w g 0 n dk os = wq at HC2 ⊢
      clear hwq
      go_wp2_with fail
      refine HC2.out.mono ?_
      rintro e w1 ⟨rfl, n', os', hx⟩
      have HX := Aside0.mk hx
      clear hx HC2 HC
      go_wp2
      go_end0
      exact ⟨rfl, n', _, os', HX.out, permIn_trans _ _ _ _ _ HI.out.1 (swapR_perm a b dk (m - i) m (by omega) (by omega) (by omega) i (by omega) (by omega)), turn_end _ m i dk HI.out.2 (by omega) (by omega)⟩
    · have hnez : ¬ ((i : Int) = (j : Int)) := by omega
      by_cases hlt : j < i
      · have hltz : (j : Int) < (i : Int) := by omega
        have q2 : IntKind.i64.wrap ((i : Int) - (j : Int)) = ((i - j : Nat) : Int) := by rw [IntKind.wrap_i64]; omega
        have hC := HC.out n dk os (m - i) m j HI.out.1 (by omega) (by omega)
        have HC2 := Aside0.mk hC
        clear hC
        generalize hwq : sortWorldK encR 3 w g 0 n dk os = wq at HC2 ⊢
        clear hwq
        go_wp2_with fail
        refine HC2.out.mono ?_
        rintro e w1 ⟨rfl, n', os', hx⟩
        have HX := Aside0.mk hx
        clear hx HC2
        go_wp2
        go_roundg (i + j - j)
        case measure => omega
        case rel => exact ⟨i - j, j, n', _, os', by go_num, rfl, by omega, hj0, by omega, hj1, by omega, HX.out, ⟨permIn_trans _ _ _ _ _ HI.out.1 (swapR_perm a b dk (m - i) m (by omega) (by omega) (by omega) j (by omega) (by omega)), turn_left _ m i j dk HI.out.2 (by omega) hlt (by omega)⟩⟩
      · have hltz : ¬ (j : Int) < (i : Int) := by omega
        have q2 : IntKind.i64.wrap ((j : Int) - (i : Int)) = ((j - i : Nat) : Int) := by rw [IntKind.wrap_i64]; omega
        have q3 : IntKind.i64.wrap ((m : Int) + (j : Int)) = ((m + j : Nat) : Int) := by rw [IntKind.wrap_i64]; omega
        have q4 : IntKind.i64.wrap (((m + j : Nat) : Int) - (i : Int)) = ((m + j - i : Nat) : Int) := by rw [IntKind.wrap_i64]; omega
        have hC := HC.out n dk os (m - i) (m + j - i) i HI.out.1 (by omega) (by omega)
        rw [show ((m + j - i : Nat) : Int) = (m : Int) + (j : Int) - (i : Int) by omega] at hC
        have HC2 := Aside0.mk hC
        clear hC
        generalize hwq : sortWorldK encR 3 w g 0 n dk os = wq at HC2 ⊢
        clear hwq
        go_wp2_with fail
        refine HC2.out.mono ?_
        rintro e w1 ⟨rfl, n', os', hx⟩
        have HX := Aside0.mk hx
        clear hx HC2
        go_wp2
        go_roundg (i + j - i)
        case measure => omega
        case rel => exact ⟨i, j - i, n', _, os', rfl, by go_num, hi0, by omega, hi1, by omega, by omega, HX.out, ⟨permIn_trans _ _ _ _ _ HI.out.1 (swapR_perm a b dk (m - i) (m + j - i) (by omega) (by omega) (by omega) i (by omega) (by omega)), turn_right _ m i j dk HI.out.2 (by omega) (by omega) (by omega)⟩⟩
end Go.Proofs.YtfijhbfdkcajjaaGreatDoor.Pr

/- The contract of slices.symMergeCmpFunc at rows. -/
namespace Go.Proofs.YtfijhbfdkcajjaaGreatDoor.Pr
open Go.RowKit Go.Proofs.YtfijhbfdkcajjaaGreatDoorW.PrintWords Go.Proofs.YtfijhbfdkcajjaaGreatDoorW.PrintLast Go.Proofs.YtfijhbfdkcajjaaGreatDoorW.PrintMore Go.SortKey Go.Shelf Go.Sort Go.Lib Go.SymSort
set_option linter.unusedVariables false
set_option linter.unusedSimpArgs false
abbrev ltR : S45 → S45 → Bool := ltOf (keyCmp rowKey)
/-- What a comparison of two rows asks and says, in every world that the statement may draw. -/
theorem cmp_eqs (g : Nat) (d dk : Array S45) (m : Nat) (os : Array Obj) (w : World) (hH : HoldsK encR 3 w g 0 d) (hg : g < w.heap.size) (hs : dk.size = d.size) (i j : Nat) (hi : i < dk.size) (hj : j < dk.size) :
    ∃ (k3 : Nat) (cI cJ : List Value), (∀ w, Sem.run Tryz.prog (Go.sizeOf 45) w = .ok k3 w) ∧ cI.length = k3 ∧ cJ.length = k3 ∧
      (∀ n' os', Sem.run Tryz.prog (loadCellsFrom ⟨g, i * 3, none⟩ 0 k3 #[]) (grow ((sortWorldK encR 3 w g 0 m dk os).drewN n') os') = .ok cI.toArray (grow ((sortWorldK encR 3 w g 0 m dk os).drewN n') os')) ∧
      (∀ n' os', Sem.run Tryz.prog (loadCellsFrom ⟨g, j * 3, none⟩ 0 k3 #[]) (grow ((sortWorldK encR 3 w g 0 m dk os).drewN n') os') = .ok cJ.toArray (grow ((sortWorldK encR 3 w g 0 m dk os).drewN n') os')) ∧
      (∀ n' os', Calls Tryz.prog 70 #[.agg cI.toArray, .agg cJ.toArray] (grow ((sortWorldK encR 3 w g 0 m dk os).drewN n') os') fun e w' => e = .returned (.int .i64 (keyCmp rowKey dk[i]! dk[j]!)) ∧ ∃ q os'', w' = grow ((grow ((sortWorldK encR 3 w g 0 m dk os).drewN n') os').drewN q) os'') ∧
      ∀ n' os', grow ((sortWorldK encR 3 w g 0 m dk os).drewN n') os' = sortWorldK encR 3 w g 0 (m + n') dk (os ++ os') := by
  have hcls : ∀ n' os', grow ((sortWorldK encR 3 w g 0 m dk os).drewN n') os' = sortWorldK encR 3 w g 0 (m + n') dk (os ++ os') := fun n' os' => sortWorldK_grown_c encR 3 w g 0 m n' dk os os'
  have hHc : ∀ n' os', HoldsK encR 3 (grow ((sortWorldK encR 3 w g 0 m dk os).drewN n') os') g 0 dk := fun n' os' => by rw [hcls]; exact holdsK_sortWorldK_c encR 3 w g 0 d dk _ _ hH hg hs
  refine ⟨3, encR dk[i]!, encR dk[j]!, Tryz.sizeOf45, encR_len _, encR_len _, fun n' os' => ?_, fun n' os' => ?_, fun n' os' => ?_, hcls⟩
  · have h_ := run_loadCellsFrom_list Tryz.prog _ _ _ 3 (encR_len _) (HoldsK.cells (hHc n' os') encR_len (i := i) hi)
    rw [Nat.zero_add] at h_
    exact h_
  · have h_ := run_loadCellsFrom_list Tryz.prog _ _ _ 3 (encR_len _) (HoldsK.cells (hHc n' os') encR_len (i := j) hj)
    rw [Nat.zero_add] at h_
    exact h_
  · exact rowCmp_calls _ _ _
theorem half (i j : Nat) (hs : i + j ≤ 1000000) : ∃ h : Nat, (2 * h ≤ i + j ∧ i + j ≤ 2 * h + 1) ∧ IntKind.i64.wrap ((i : Int) + (j : Int)) = (i : Int) + (j : Int) ∧ IntKind.u64.wrap ((i : Int) + (j : Int)) = (i : Int) + (j : Int) ∧ ((i : Int) + (j : Int)) / 2 = (h : Int) ∧ IntKind.i64.wrap (h : Int) = (h : Int) ∧ IntKind.u64.wrap (h : Int) = (h : Int) := by
  refine ⟨(i + j) / 2, ⟨by omega, by omega⟩, ?_, IntWalk.u64_in _ (by omega), by omega, ?_, IntWalk.u64_in _ (by omega)⟩
  · rw [IntKind.wrap_i64]; omega
  · rw [IntKind.wrap_i64]; omega
/-- The same, cell by cell. -/
theorem cmp_cells (g : Nat) (d dk : Array S45) (m : Nat) (os : Array Obj) (w : World) (hH : HoldsK encR 3 w g 0 d) (hg : g < w.heap.size) (hs : dk.size = d.size) (i j : Nat) (hi : i < dk.size) (hj : j < dk.size) :
    (∀ n' os', (grow ((sortWorldK encR 3 w g 0 m dk os).drewN n') os').cell? ⟨g, i * 3, none⟩ = some (.string (dk[i]!).f0)) ∧
    (∀ n' os', (grow ((sortWorldK encR 3 w g 0 m dk os).drewN n') os').cell? ⟨g, i * 3 + 1, none⟩ = some (.int .u64 (dk[i]!).f1.f0)) ∧
    (∀ n' os', (grow ((sortWorldK encR 3 w g 0 m dk os).drewN n') os').cell? ⟨g, i * 3 + 2, none⟩ = some (.int .u64 (dk[i]!).f1.f1)) ∧
    (∀ n' os', (grow ((sortWorldK encR 3 w g 0 m dk os).drewN n') os').cell? ⟨g, j * 3, none⟩ = some (.string (dk[j]!).f0)) ∧
    (∀ n' os', (grow ((sortWorldK encR 3 w g 0 m dk os).drewN n') os').cell? ⟨g, j * 3 + 1, none⟩ = some (.int .u64 (dk[j]!).f1.f0)) ∧
    (∀ n' os', (grow ((sortWorldK encR 3 w g 0 m dk os).drewN n') os').cell? ⟨g, j * 3 + 2, none⟩ = some (.int .u64 (dk[j]!).f1.f1)) ∧
    (∀ n' os', Calls Tryz.prog 70 #[.agg #[.string (dk[i]!).f0, .int .u64 (dk[i]!).f1.f0, .int .u64 (dk[i]!).f1.f1], .agg #[.string (dk[j]!).f0, .int .u64 (dk[j]!).f1.f0, .int .u64 (dk[j]!).f1.f1]] (grow ((sortWorldK encR 3 w g 0 m dk os).drewN n') os') fun e w' => e = .returned (.int .i64 (keyCmp rowKey dk[i]! dk[j]!)) ∧ ∃ q os'', w' = grow ((grow ((sortWorldK encR 3 w g 0 m dk os).drewN n') os').drewN q) os'') ∧
      ∀ n' os', grow ((sortWorldK encR 3 w g 0 m dk os).drewN n') os' = sortWorldK encR 3 w g 0 (m + n') dk (os ++ os') := by
  have hcls : ∀ n' os', grow ((sortWorldK encR 3 w g 0 m dk os).drewN n') os' = sortWorldK encR 3 w g 0 (m + n') dk (os ++ os') := fun n' os' => sortWorldK_grown_c encR 3 w g 0 m n' dk os os'
  have hHc : ∀ n' os', HoldsK encR 3 (grow ((sortWorldK encR 3 w g 0 m dk os).drewN n') os') g 0 dk := fun n' os' => by rw [hcls]; exact holdsK_sortWorldK_c encR 3 w g 0 d dk _ _ hH hg hs
  have cel : ∀ x, x < dk.size → ∀ j u, (encR dk[x]!)[j]? = some u → ∀ n' os', (grow ((sortWorldK encR 3 w g 0 m dk os).drewN n') os').cell? ⟨g, x * 3 + j, none⟩ = some u := fun x hx j u hu n' os' => by
    have h_ := HoldsK.cells (hHc n' os') encR_len (i := x) hx j u hu
    rw [Nat.zero_add, Addr.add_lit] at h_
    exact h_
  exact ⟨fun n' os' => cel i hi 0 _ rfl n' os', fun n' os' => cel i hi 1 _ rfl n' os', fun n' os' => cel i hi 2 _ rfl n' os', fun n' os' => cel j hj 0 _ rfl n' os', fun n' os' => cel j hj 1 _ rfl n' os', fun n' os' => cel j hj 2 _ rfl n' os', fun n' os' => rowCmp_calls _ _ _, hcls⟩
theorem lt_down {d : Array S45} {m b x h : Nat} (hs : SortedIn ltR m b d) (h1 : m ≤ h) (h2 : h < b) (hl : ltR d[h]! d[x]! = true) : ∀ c, m ≤ c → c ≤ h → ltR d[c]! d[x]! = true := by
  intro c hc hch
  cases e : ltR d[c]! d[x]! with
  | true => rfl
  | false =>
    have : ltR d[h]! d[x]! = false := by
      rcases Nat.eq_or_lt_of_le hch with rfl | h3
      · exact e
      · exact (swoKey rowKey).ntrans _ _ _ (hs c h hc h3 h2) e
    rw [this] at hl; cases hl
theorem lt_up {d : Array S45} {m b x h : Nat} (hs : SortedIn ltR m b d) (h1 : m ≤ h) (h2 : h < b) (hl : ltR d[h]! d[x]! = false) : ∀ c, h ≤ c → c < b → ltR d[c]! d[x]! = false := by
  intro c hc hcb
  rcases Nat.eq_or_lt_of_le hc with rfl | h3
  · exact hl
  · exact (swoKey rowKey).ntrans _ _ _ (hs h c h1 h3 hcb) hl
theorem gt_down {d : Array S45} {a m x h : Nat} (hs : SortedIn ltR a m d) (h1 : a ≤ h) (h2 : h < m) (hl : ltR d[x]! d[h]! = false) : ∀ c, a ≤ c → c ≤ h → ltR d[x]! d[c]! = false := by
  intro c hc hch
  rcases Nat.eq_or_lt_of_le hch with rfl | h3
  · exact hl
  · exact (swoKey rowKey).ntrans _ _ _ hl (hs c h hc h3 h2)
theorem gt_up {d : Array S45} {a m x h : Nat} (hs : SortedIn ltR a m d) (h1 : a ≤ h) (h2 : h < m) (hl : ltR d[x]! d[h]! = true) : ∀ c, h ≤ c → c < m → ltR d[x]! d[c]! = true := by
  intro c hc hcm
  cases e : ltR d[x]! d[c]! with
  | true => rfl
  | false =>
    have : ltR d[x]! d[h]! = false := by
      rcases Nat.eq_or_lt_of_le hc with rfl | h3
      · exact e
      · exact (swoKey rowKey).ntrans _ _ _ e (hs h c h1 h3 hcm)
    rw [this] at hl; cases hl
set_option maxRecDepth 100000 in
set_option maxHeartbeats 8000000 in
/-- The left run is one row. -/
theorem sym_left1 (g cap a m b : Nat) (hma : m = a + 1) (d : Array S45) (w : World) (hH : HoldsK encR 3 w g 0 d) (hg : g < w.heap.size) (hab : a + 1 < b) (hb : b ≤ d.size) (hd : d.size ≤ 100000) (hs : SortedIn ltR (a + 1) b d) :
    Calls Tryz.prog 112 #[.slice (some ⟨g, 0, none⟩) d.size cap, .int .i64 (a : Int), .int .i64 (m : Int), .int .i64 (b : Int), .func (.func 70) #[] #[]] w fun e w' => e = .returned (.tuple #[]) ∧ ∃ n d' os, w' = sortWorldK encR 3 w g 0 n d' os ∧ PermIn a b d d' ∧ SortedIn ltR a b d' := by
  have eg : ∀ args w, (callFunc 70 args).run Tryz.prog w = .ok (.enter 70 args) w := enters_of Tryz.func70 (by kernel_rfl) rfl
  have mixed : Tryz.prog.follows Departure.mixedOrders = true := by kernel_rfl
  have HST : Hid (w = sortWorldK encR 3 w g 0 0 d #[]) := by show w = _; unfold sortWorldK; rw [grow_empty]; exact (putRowK_self encR 3 w g 0 d hH).symm
  have HH : Hid (HoldsK encR 3 w g 0 d) := hH
  have HG : Hid (g < w.heap.size) := hg
  have HS : Hid (SortedIn ltR (a + 1) b d) := hs
  clear hH hg hs
  have e1 : IntKind.i64.wrap ((m : Int) - (a : Int)) = 1 := by rw [IntKind.wrap_i64]; omega
  have z1 : (m : Int) - (a : Int) = 1 := by omega
  have HM : Hid (m = a + 1) := hma
  have hm1 : m ≤ a + 1 ∧ a + 1 ≤ m := by omega
  clear hma
  go_enter Tryz.func112, Tryz.ntmps112
  go_wp2_with fail
  go_loopg [10, 11] b (fun g1 vi vj wr => ∃ (i j n : Nat) (os : Array Obj), vi = .int .i64 i ∧ vj = .int .i64 j ∧ a + 1 ≤ i ∧ i ≤ j ∧ j ≤ b ∧ j - i ≤ g1 ∧ wr = sortWorldK encR 3 w g 0 n d os ∧ Hid ((∀ c, a + 1 ≤ c → c < i → ltR d[c]! d[a]! = true) ∧ ∀ c, j ≤ c → c < b → ltR d[c]! d[a]! = false))
  case atStart => exact ⟨a + 1, b, 0, #[], by rw [HM.out], rfl, Nat.le_refl _, by omega, Nat.le_refl _, by omega, HST.out, ⟨fun c h1 h2 => absurd h2 (by omega), fun c h1 h2 => absurd h2 (by omega)⟩⟩
  case round =>
    obtain ⟨i, j, n, os, rfl, rfl, hi, hij, hj, hg1, rfl, hI⟩ := hrel
    have HI : Hid _ := hI
    clear hI
    by_cases hlt : i < j
    · have hltz : (i : Int) < (j : Int) := by omega
      obtain ⟨h, hh, f1, f2, f3, f4, f4u⟩ := half i j (by omega)
      have hb1 : i ≤ h ∧ h < j := by omega
      clear hh
      have p0 : (0 : Int) ≤ (h : Int) := by omega
      have p1 : (h : Int) < (d.size : Int) := by omega
      have p2 : (0 : Int) ≤ (a : Int) := by omega
      have p3 : (a : Int) < (d.size : Int) := by omega
      have f5 : IntKind.i64.wrap ((h : Int) + 1) = ((h + 1 : Nat) : Int) := by rw [IntKind.wrap_i64]; omega
      obtain ⟨l0, l1, l2, l3, l4, l5, hcg, hcls⟩ := cmp_cells g d d n os w HH.out HG.out rfl h a (by omega) (by omega)
      have CLS : Hid _ := hcls
      clear hcls
      generalize hwq : sortWorldK encR 3 w g 0 n d os = wq at l0 l1 l2 l3 l4 l5 hcg CLS ⊢
      clear hwq
      by_cases hlv : keyCmp rowKey d[h]! d[a]! < 0
      · have hb1_ : decide (keyCmp rowKey d[h]! d[a]! < 0) = true := decide_eq_true hlv
        have hb2_ : decide (0 ≤ keyCmp rowKey d[h]! d[a]!) = false := decide_eq_false (by omega)
        have HLV : Hid (ltR d[h]! d[a]! = true) := decide_eq_true hlv
        go_wp2_with fail
        go_quiet_grown (first | (go_at_fn 70; refine Calls.grown_of (hcg _ _)))
        go_wp2
        go_roundg (j - (h + 1))
        case measure => omega
        case rel => exact ⟨h + 1, j, _, _, by first | rfl | (congr 1; omega) | go_num, rfl, by omega, by omega, hj, Nat.le_refl _, CLS.out nq osq, ⟨fun c h1 h2 => lt_down HS.out (by omega) (by omega) HLV.out c h1 (by omega), HI.out.2⟩⟩
      · have hb1_ : decide (keyCmp rowKey d[h]! d[a]! < 0) = false := decide_eq_false hlv
        have hb2_ : decide (0 ≤ keyCmp rowKey d[h]! d[a]!) = true := decide_eq_true (by omega)
        have HLV : Hid (ltR d[h]! d[a]! = false) := decide_eq_false hlv
        go_wp2_with fail
        go_quiet_grown (first | (go_at_fn 70; refine Calls.grown_of (hcg _ _)))
        go_wp2
        go_roundg (h - i)
        case measure => omega
        case rel => exact ⟨i, h, _, _, rfl, by first | rfl | (congr 1; omega) | go_num, hi, by omega, by omega, Nat.le_refl _, CLS.out nq osq, ⟨HI.out.1, fun c h1 h2 => lt_up HS.out (by omega) (by omega) HLV.out c h1 h2⟩⟩
    · have hltz : ¬ (i : Int) < (j : Int) := by omega
      have f6 : IntKind.i64.wrap ((i : Int) - 1) = ((i - 1 : Nat) : Int) := by rw [IntKind.wrap_i64]; omega
      go_wp2_with fail
      go_loopg [13] b (fun g2 vk wr2 => ∃ (t m : Nat) (os2 : Array Obj), vk = .int .i64 ((a + t : Nat) : Int) ∧ a + t ≤ i - 1 ∧ i - 1 - (a + t) ≤ g2 ∧ wr2 = sortWorldK encR 3 w g 0 m (carR d a t) os2)
      case atStart => exact ⟨0, n, os, rfl, by omega, by omega, rfl⟩
      case round =>
        obtain ⟨t, m, os2, rfl, ht, hg2, rfl⟩ := hrel
        by_cases hkt : a + t < i - 1
        · have hktz : ((a + t : Nat) : Int) < ((i - 1 : Nat) : Int) := by omega
          have f7 : IntKind.i64.wrap (((a + t : Nat) : Int) + 1) = ((a + t + 1 : Nat) : Int) := by rw [IntKind.wrap_i64]; omega
          have q0 : (0 : Int) ≤ ((a + t : Nat) : Int) := by omega
          have q1 : ((a + t : Nat) : Int) < (d.size : Int) := by omega
          have q2 : (0 : Int) ≤ ((a + t + 1 : Nat) : Int) := by omega
          have q3 : ((a + t + 1 : Nat) : Int) < (d.size : Int) := by omega
          obtain ⟨k3, cA, cB, zE, hsA, hsB, la, lb, s1, s2, hsw⟩ := swap_eqs g d (carR d a t) m os2 w HH.out HG.out (size_carR d a t) (a + t) (a + t + 1) (by rw [size_carR]; omega) (by rw [size_carR]; omega)
          have HSW : Hid _ := hsw
          clear hsw
          generalize hwq : sortWorldK encR 3 w g 0 m (carR d a t) os2 = wq at la lb s1 s2 HSW ⊢
          clear hwq
          go_wp2_with fail
          have aE := Tryz.isAgg45
          generalize (45 : Nat) = T at zE aE ⊢
          go_big_region_o
          all_goals go_wp2
          go_roundg (i - 1 - (a + t + 1))
          case measure => omega
          case rel => exact ⟨t + 1, m + 1, os2, by first | rfl | go_num | (congr 1; omega), by omega, by omega, by rw [carR, ← HSW.out]⟩
        · have hktz : ¬ ((a + t : Nat) : Int) < ((i - 1 : Nat) : Int) := by omega
          go_wp2
          (try simp only [Exit.inBlock, Exit.then]); refine bodyPost_ret (results_none rfl _ _ _) rfl ?_
          first
          | exact ⟨rfl, m, _, os2, by rw [show t = i - 1 - a by omega], carR_perm d a b hb _ (by omega), one_left (swoKey rowKey) d a b i hb HS.out HI.out.1 (fun c h1 h2 => HI.out.2 c (by omega) h2) hi (by omega)⟩
          | exact ⟨rfl, m, _, ⟨os2, by rw [show t = i - 1 - a by omega]⟩, carR_perm d a b hb _ (by omega), one_left (swoKey rowKey) d a b i hb HS.out HI.out.1 (fun c h1 h2 => HI.out.2 c (by omega) h2) hi (by omega)⟩
set_option maxRecDepth 100000 in
set_option maxHeartbeats 8000000 in
/-- The right run is one row. -/
theorem sym_right1 (g cap a m b : Nat) (hmb : b = m + 1) (d : Array S45) (w : World) (hH : HoldsK encR 3 w g 0 d) (hg : g < w.heap.size) (ham : a + 1 < m) (hb : m + 1 ≤ d.size) (hd : d.size ≤ 100000) (hs : SortedIn ltR a m d) :
    Calls Tryz.prog 112 #[.slice (some ⟨g, 0, none⟩) d.size cap, .int .i64 (a : Int), .int .i64 (m : Int), .int .i64 (b : Int), .func (.func 70) #[] #[]] w fun e w' => e = .returned (.tuple #[]) ∧ ∃ n d' os, w' = sortWorldK encR 3 w g 0 n d' os ∧ PermIn a (m + 1) d d' ∧ SortedIn ltR a (m + 1) d' := by
  have eg : ∀ args w, (callFunc 70 args).run Tryz.prog w = .ok (.enter 70 args) w := enters_of Tryz.func70 (by kernel_rfl) rfl
  have mixed : Tryz.prog.follows Departure.mixedOrders = true := by kernel_rfl
  have HST : Hid (w = sortWorldK encR 3 w g 0 0 d #[]) := by show w = _; unfold sortWorldK; rw [grow_empty]; exact (putRowK_self encR 3 w g 0 d hH).symm
  have HH : Hid (HoldsK encR 3 w g 0 d) := hH
  have HG : Hid (g < w.heap.size) := hg
  have HS : Hid (SortedIn ltR a m d) := hs
  clear hH hg hs
  have e1 : IntKind.i64.wrap ((m : Int) - (a : Int)) = ((m - a : Nat) : Int) := by rw [IntKind.wrap_i64]; omega
  have e2 : ¬ (((m - a : Nat) : Int) = 1) := by omega
  have e2b : (((m - a : Nat) : Int) == 1) = false := by simpa using e2
  have e3 : IntKind.i64.wrap ((b : Int) - (m : Int)) = 1 := by rw [IntKind.wrap_i64]; omega
  have z3 : (b : Int) - (m : Int) = 1 := by omega
  clear hmb
  go_enter Tryz.func112, Tryz.ntmps112
  go_wp2_with fail
  go_loopg [14, 15] m (fun g1 vi vj wr => ∃ (i j n : Nat) (os : Array Obj), vi = .int .i64 i ∧ vj = .int .i64 j ∧ a ≤ i ∧ i ≤ j ∧ j ≤ m ∧ j - i ≤ g1 ∧ wr = sortWorldK encR 3 w g 0 n d os ∧ Hid ((∀ c, a ≤ c → c < i → ltR d[m]! d[c]! = false) ∧ ∀ c, j ≤ c → c < m → ltR d[m]! d[c]! = true))
  case atStart => exact ⟨a, m, 0, #[], rfl, rfl, Nat.le_refl _, by omega, Nat.le_refl _, by omega, HST.out, ⟨fun c h1 h2 => absurd h2 (by omega), fun c h1 h2 => absurd h2 (by omega)⟩⟩
  case round =>
    obtain ⟨i, j, n, os, rfl, rfl, hi, hij, hj, hg1, rfl, hI⟩ := hrel
    have HI : Hid _ := hI
    clear hI
    by_cases hlt : i < j
    · have hltz : (i : Int) < (j : Int) := by omega
      obtain ⟨h, hh, f1, f2, f3, f4, f4u⟩ := half i j (by omega)
      have hb1 : i ≤ h ∧ h < j := by omega
      clear hh
      have p0 : (0 : Int) ≤ (h : Int) := by omega
      have p1 : (h : Int) < (d.size : Int) := by omega
      have p2 : (0 : Int) ≤ (m : Int) := by omega
      have p3 : (m : Int) < (d.size : Int) := by omega
      have f5 : IntKind.i64.wrap ((h : Int) + 1) = ((h + 1 : Nat) : Int) := by rw [IntKind.wrap_i64]; omega
      obtain ⟨k3, cI, cJ, zE, hcI, hcJ, lI, lJ, hcg, hcls⟩ := cmp_eqs g d d n os w HH.out HG.out rfl m h (by omega) (by omega)
      have CLS : Hid _ := hcls
      clear hcls
      generalize hwq : sortWorldK encR 3 w g 0 n d os = wq at lI lJ hcg CLS ⊢
      clear hwq
      by_cases hlv : keyCmp rowKey d[m]! d[h]! < 0
      · have hb1_ : decide (keyCmp rowKey d[m]! d[h]! < 0) = true := decide_eq_true hlv
        have hb2_ : decide (0 ≤ keyCmp rowKey d[m]! d[h]!) = false := decide_eq_false (by omega)
        have HLV : Hid (ltR d[m]! d[h]! = true) := decide_eq_true hlv
        go_wp2_with fail
        have aE := Tryz.isAgg45
        generalize (45 : Nat) = T at zE aE ⊢
        go_quiet_grown (first | (go_at_fn 70; refine Calls.grown_of (hcg _ _)))
        go_wp2
        go_roundg (h - i)
        case measure => omega
        case rel => exact ⟨i, h, _, _, rfl, by first | rfl | (congr 1; omega) | go_num, hi, by omega, by omega, Nat.le_refl _, CLS.out nq osq, ⟨HI.out.1, fun c h1 h2 => gt_up HS.out (by omega) (by omega) HLV.out c h1 h2⟩⟩
      · have hb1_ : decide (keyCmp rowKey d[m]! d[h]! < 0) = false := decide_eq_false hlv
        have hb2_ : decide (0 ≤ keyCmp rowKey d[m]! d[h]!) = true := decide_eq_true (by omega)
        have HLV : Hid (ltR d[m]! d[h]! = false) := decide_eq_false hlv
        go_wp2_with fail
        have aE := Tryz.isAgg45
        generalize (45 : Nat) = T at zE aE ⊢
        go_quiet_grown (first | (go_at_fn 70; refine Calls.grown_of (hcg _ _)))
        go_wp2
        go_roundg (j - (h + 1))
        case measure => omega
        case rel => exact ⟨h + 1, j, _, _, by first | rfl | (congr 1; omega) | go_num, rfl, by omega, by omega, hj, Nat.le_refl _, CLS.out nq osq, ⟨fun c h1 h2 => gt_down HS.out (by omega) (by omega) HLV.out c h1 (by omega), HI.out.2⟩⟩
    · have hltz : ¬ (i : Int) < (j : Int) := by omega
      go_wp2_with fail
      go_loopg [17] m (fun g2 vk wr2 => ∃ (t q : Nat) (os2 : Array Obj), vk = .int .i64 ((m - t : Nat) : Int) ∧ t ≤ m - i ∧ m - i - t ≤ g2 ∧ wr2 = sortWorldK encR 3 w g 0 q (carL d m t) os2)
      case atStart => exact ⟨0, n, os, rfl, by omega, by omega, rfl⟩
      case round =>
        obtain ⟨t, q, os2, rfl, ht, hg2, rfl⟩ := hrel
        by_cases hkt : i < m - t
        · have hktz : (i : Int) < ((m - t : Nat) : Int) := by omega
          have f7 : IntKind.i64.wrap (((m - t : Nat) : Int) - 1) = ((m - t - 1 : Nat) : Int) := by rw [IntKind.wrap_i64]; omega
          have q0 : (0 : Int) ≤ ((m - t : Nat) : Int) := by omega
          have q1 : ((m - t : Nat) : Int) < (d.size : Int) := by omega
          have q2 : (0 : Int) ≤ ((m - t - 1 : Nat) : Int) := by omega
          have q3 : ((m - t - 1 : Nat) : Int) < (d.size : Int) := by omega
          obtain ⟨k3, cA, cB, zE, hsA, hsB, la, lb, s1, s2, hsw⟩ := swap_eqs g d (carL d m t) q os2 w HH.out HG.out (size_carL d m t) (m - t) (m - t - 1) (by rw [size_carL]; omega) (by rw [size_carL]; omega)
          have HSW : Hid _ := hsw
          clear hsw
          generalize hwq : sortWorldK encR 3 w g 0 q (carL d m t) os2 = wq at la lb s1 s2 HSW ⊢
          clear hwq
          go_wp2_with fail
          have aE := Tryz.isAgg45
          generalize (45 : Nat) = T at zE aE ⊢
          go_big_region_o
          all_goals go_wp2
          go_roundg (m - i - (t + 1))
          case measure => omega
          case rel => exact ⟨t + 1, q + 1, os2, by first | rfl | go_num | (congr 1; omega), by omega, by omega, by rw [carL, ← HSW.out]⟩
        · have hktz : ¬ (i : Int) < ((m - t : Nat) : Int) := by omega
          go_wp2
          (try simp only [Exit.inBlock, Exit.then]); refine bodyPost_ret (results_none rfl _ _ _) rfl ?_
          first
          | exact ⟨rfl, q, _, os2, by rw [show t = m - i by omega], carL_perm d a m hb _ (by omega), one_right (swoKey rowKey) d a m i (by omega) HS.out HI.out.1 (fun c h1 h2 => HI.out.2 c (by omega) h2) hi (by omega)⟩
          | exact ⟨rfl, q, _, ⟨os2, by rw [show t = m - i by omega]⟩, carL_perm d a m hb _ (by omega), one_right (swoKey rowKey) d a m i (by omega) HS.out HI.out.1 (fun c h1 h2 => HI.out.2 c (by omega) h2) hi (by omega)⟩
end Go.Proofs.YtfijhbfdkcajjaaGreatDoor.Pr

/- The contract of slices.symMergeCmpFunc at rows: the general merge. -/
namespace Go.Proofs.YtfijhbfdkcajjaaGreatDoor.Pr
open Go.RowKit Go.Proofs.YtfijhbfdkcajjaaGreatDoorW.PrintWords Go.Proofs.YtfijhbfdkcajjaaGreatDoorW.PrintLast Go.Proofs.YtfijhbfdkcajjaaGreatDoorW.PrintMore Go.SortKey Go.Shelf Go.Sort Go.Lib Go.SymSort
set_option linter.unusedVariables false
set_option linter.unusedSimpArgs false
theorem turned_id (d : Array S45) (s m e : Nat) (h1 : s ≤ m) (h2 : m ≤ e) (h : ¬ (s < m ∧ m < e)) : ∀ k, d[k]! = turned d s m e k := by
  intro k
  unfold turned
  by_cases c : s < m
  · obtain rfl : m = e := by omega
    rw [if_neg (by omega)]
    by_cases c2 : s + (m - m) ≤ k ∧ k < m
    · rw [if_pos c2]; congr 1; omega
    · rw [if_neg c2]
  · obtain rfl : s = m := by omega
    by_cases c2 : s ≤ k ∧ k < s + (e - s)
    · rw [if_pos c2]; congr 1; omega
    · rw [if_neg c2, if_neg (by omega)]
/-- The contract of a merge, of a size at most N. -/
def SymOk (N g cap sz : Nat) : Prop := ∀ (a m b : Nat) (d : Array S45) (w : World), d.size = sz → HoldsK encR 3 w g 0 d → g < w.heap.size → a < m → m < b → b ≤ sz → b - a ≤ N → SortedIn ltR a m d → SortedIn ltR m b d →
    Calls Tryz.prog 112 #[.slice (some ⟨g, 0, none⟩) sz cap, .int .i64 (a : Int), .int .i64 (m : Int), .int .i64 (b : Int), .func (.func 70) #[] #[]] w fun e w' => e = .returned (.tuple #[]) ∧ ∃ n d' os, w' = sortWorldK encR 3 w g 0 n d' os ∧ PermIn a b d d' ∧ SortedIn ltR a b d'
set_option maxRecDepth 100000 in
set_option maxHeartbeats 8000000 in
theorem sym_main (N g cap : Nat) (a m b : Nat) (d : Array S45) (w : World) (hH : HoldsK encR 3 w g 0 d) (hg : g < w.heap.size) (ham : a + 1 < m) (hmb : m + 1 < b) (hb : b ≤ d.size) (hN : b - a ≤ N + 1) (hd : d.size ≤ 100000) (hs1 : SortedIn ltR a m d) (hs2 : SortedIn ltR m b d) (ih : SymOk N g cap d.size) :
    Calls Tryz.prog 112 #[.slice (some ⟨g, 0, none⟩) d.size cap, .int .i64 (a : Int), .int .i64 (m : Int), .int .i64 (b : Int), .func (.func 70) #[] #[]] w fun e w' => e = .returned (.tuple #[]) ∧ ∃ n d' os, w' = sortWorldK encR 3 w g 0 n d' os ∧ PermIn a b d d' ∧ SortedIn ltR a b d' := by
  have eg : ∀ args w, (callFunc 70 args).run Tryz.prog w = .ok (.enter 70 args) w := enters_of Tryz.func70 (by kernel_rfl) rfl
  have mixed : Tryz.prog.follows Departure.mixedOrders = true := by kernel_rfl
  have HST : Hid (w = sortWorldK encR 3 w g 0 0 d #[]) := by show w = _; unfold sortWorldK; rw [grow_empty]; exact (putRowK_self encR 3 w g 0 d hH).symm
  have HH : Hid (HoldsK encR 3 w g 0 d) := hH
  have HG : Hid (g < w.heap.size) := hg
  have HS : Hid (SortedIn ltR a m d ∧ SortedIn ltR m b d) := ⟨hs1, hs2⟩
  have IH : Hid (SymOk N g cap d.size) := ih
  clear hH hg hs1 hs2 ih
  obtain ⟨mid, hmid, f1, f2, f3, f4, f4u⟩ := half a b (by omega)
  obtain ⟨lo, hlo0⟩ : ∃ lo, lo = if mid < m then mid + m - b else a := ⟨_, rfl⟩
  obtain ⟨hi, hhi0⟩ : ∃ hi, hi = if mid < m then mid else m := ⟨_, rfl⟩
  have hlo1 := hlo0
  have hhi1 := hhi0
  have bl : lo ≤ hi ∧ hi ≤ mid ∧ hi ≤ m ∧ a ≤ lo ∧ mid + m - 1 - lo < b ∧ m ≤ mid + m - hi := by
    by_cases c : mid < m
    · rw [if_pos c] at hlo1 hhi1; omega
    · rw [if_neg c] at hlo1 hhi1; omega
  have hlo : Hid (lo = if mid < m then mid + m - b else a) := hlo0
  have hhi : Hid (hi = if mid < m then mid else m) := hhi0
  clear hlo0 hhi0 hlo1 hhi1
  have e1 : IntKind.i64.wrap ((m : Int) - (a : Int)) = ((m - a : Nat) : Int) := by rw [IntKind.wrap_i64]; omega
  have e2 : ¬ (((m - a : Nat) : Int) = 1) := by omega
  have e2b : (((m - a : Nat) : Int) == 1) = false := by simpa using e2
  have e3 : IntKind.i64.wrap ((b : Int) - (m : Int)) = ((b - m : Nat) : Int) := by rw [IntKind.wrap_i64]; omega
  have e4 : ¬ (((b - m : Nat) : Int) = 1) := by omega
  have e4b : (((b - m : Nat) : Int) == 1) = false := by simpa using e4
  have e5 : IntKind.i64.wrap ((mid : Int) + (m : Int)) = (mid : Int) + (m : Int) := by rw [IntKind.wrap_i64]; omega
  obtain ⟨P, hP⟩ : ∃ P, P + 1 = mid + m := ⟨mid + m - 1, by omega⟩
  have hP1 : P + 1 ≤ mid + m ∧ mid + m ≤ P + 1 := by omega
  clear hP
  have e6 : IntKind.i64.wrap ((mid : Int) + (m : Int) - 1) = (P : Int) := by rw [IntKind.wrap_i64]; omega
  have z6 : (mid : Int) + (m : Int) - 1 = (P : Int) := by omega
  go_enter Tryz.func112, Tryz.ntmps112
  go_upto_if 140 with fail
  go_cut [20, 21] (fun v20 v21 wc => v20 = .int .i64 (lo : Int) ∧ v21 = .int .i64 (hi : Int) ∧ w = wc)
  case first =>
    by_cases c : mid < m
    · have cz : (mid : Int) < (m : Int) := by omega
      have h1 := hlo.out
      have h2 := hhi.out
      rw [if_pos c] at h1 h2
      have e7 : IntKind.i64.wrap ((mid : Int) + (m : Int) - (b : Int)) = (lo : Int) := by rw [IntKind.wrap_i64]; omega
      have z7 : (mid : Int) + (m : Int) - (b : Int) = (lo : Int) := by omega
      have H2 : Hid _ := h2
      clear h1 h2
      go_wp2
      go_meet
      case rel => exact ⟨rfl, by rw [H2.out], rfl⟩
    · have cz : ¬ (mid : Int) < (m : Int) := by omega
      go_wp2
      go_meet
      case rel =>
        have h1 := hlo.out
        have h2 := hhi.out
        rw [if_neg c] at h1 h2
        exact ⟨by rw [h1], by rw [h2], rfl⟩
  case rest =>
    obtain ⟨rfl, rfl, rfl⟩ := hcut
    go_wp2_with fail
    go_loopg [20, 21] b (fun g1 vs vr wr => ∃ (s r n : Nat) (os : Array Obj), vs = .int .i64 s ∧ vr = .int .i64 r ∧ s ≤ r ∧ r ≤ hi ∧ lo ≤ s ∧ r - s ≤ g1 ∧ wr = sortWorldK encR 3 w g 0 n d os ∧ Hid (SymInv ltR d (mid + m - 1) lo hi s r))
    case atStart => exact ⟨lo, hi, 0, #[], rfl, rfl, bl.1, Nat.le_refl _, Nat.le_refl _, by omega, HST.out, ⟨Nat.le_refl _, bl.1, Nat.le_refl _, fun c h1 h2 => absurd h2 (by omega), fun c h1 h2 => absurd h2 (by omega)⟩⟩
    case round =>
      obtain ⟨s, r, n, os, rfl, rfl, hsr, hrh, hls, hg1, rfl, hI⟩ := hrel
      have HI : Hid _ := hI
      clear hI
      by_cases hlt : s < r
      · have hltz : (s : Int) < (r : Int) := by omega
        obtain ⟨h, hh, k1, k2, k4, k5, k6⟩ := half s r (by omega)
        have hb1 : s ≤ h ∧ h < r := by omega
        clear hh
        obtain ⟨Q, hQ0⟩ : ∃ Q, mid + m - 1 - h = Q := ⟨_, rfl⟩
        have hQ1 : Q + h + 1 ≤ mid + m ∧ mid + m ≤ Q + h + 1 := by omega
        have hQ : Hid (mid + m - 1 - h = Q) := hQ0
        clear hQ0
        have f8 : IntKind.i64.wrap ((P : Int) - (h : Int)) = (Q : Int) := by rw [IntKind.wrap_i64]; omega
        have z8 : (P : Int) - (h : Int) = (Q : Int) := by omega
        have w8 : IntKind.i64.wrap (Q : Int) = (Q : Int) := by rw [IntKind.wrap_i64]; omega
        have p0 : (0 : Int) ≤ (h : Int) := by omega
        have p1 : (h : Int) < (d.size : Int) := by omega
        have p2 : (0 : Int) ≤ (Q : Int) := by omega
        have p3 : (Q : Int) < (d.size : Int) := by omega
        have f9 : IntKind.i64.wrap ((h : Int) + 1) = ((h + 1 : Nat) : Int) := by rw [IntKind.wrap_i64]; omega
        obtain ⟨k3, cI, cJ, zE, hcI, hcJ, lI, lJ, hcg, hcls⟩ := cmp_eqs g d d n os w HH.out HG.out rfl Q h (by omega) (by omega)
        have CLS : Hid _ := hcls
        clear hcls
        generalize hwq : sortWorldK encR 3 w g 0 n d os = wq at lI lJ hcg CLS ⊢
        clear hwq
        by_cases hlv : keyCmp rowKey d[Q]! d[h]! < 0
        · have hb1_ : decide (keyCmp rowKey d[Q]! d[h]! < 0) = true := decide_eq_true hlv
          have hb2_ : decide (0 ≤ keyCmp rowKey d[Q]! d[h]!) = false := decide_eq_false (by omega)
          have HLV : Hid (ltR d[Q]! d[h]! = true) := decide_eq_true hlv
          go_wp2_with fail
          have aE := Tryz.isAgg45
          generalize (45 : Nat) = T at zE aE ⊢
          go_quiet_grown (first | (go_at_fn 70; refine Calls.grown_of (hcg _ _)))
          go_wp2
          go_roundg (h - s)
          case measure => omega
          case rel => exact ⟨s, h, _, _, rfl, rfl, hb1.1, by omega, hls, Nat.le_refl _, CLS.out nq osq, sym_yes (swoKey rowKey) d a m b mid lo hi s r h HS.out.1 HS.out.2 HI.out hb1.1 hb1.2 bl.2.2.2.1 bl.2.2.1 (by omega) bl.2.2.2.2.1 (by rw [hQ.out]; exact HLV.out)⟩
        · have hb1_ : decide (keyCmp rowKey d[Q]! d[h]! < 0) = false := decide_eq_false hlv
          have hb2_ : decide (0 ≤ keyCmp rowKey d[Q]! d[h]!) = true := decide_eq_true (by omega)
          have HLV : Hid (ltR d[Q]! d[h]! = false) := decide_eq_false hlv
          go_wp2_with fail
          have aE := Tryz.isAgg45
          generalize (45 : Nat) = T at zE aE ⊢
          go_quiet_grown (first | (go_at_fn 70; refine Calls.grown_of (hcg _ _)))
          go_wp2
          go_roundg (r - (h + 1))
          case measure => omega
          case rel => exact ⟨h + 1, r, _, _, by go_num, rfl, by omega, hrh, by omega, Nat.le_refl _, CLS.out nq osq, sym_no (swoKey rowKey) d a m b mid lo hi s r h HS.out.1 HS.out.2 HI.out hb1.1 hb1.2 bl.2.2.2.1 bl.2.2.1 (by omega) bl.2.2.2.2.1 (by rw [hQ.out]; exact HLV.out)⟩
      · have hltz : ¬ (s : Int) < (r : Int) := by omega
        obtain rfl : s = r := by omega
        obtain ⟨E, hE0⟩ : ∃ E, E = mid + m - s := ⟨_, rfl⟩
        have bd0 : s ≤ mid ∧ s ≤ m := by omega
        have hE1 : E + s ≤ mid + m ∧ mid + m ≤ E + s := by omega
        have hE : Hid (E = mid + m - s) := hE0
        clear hE0
        have e8 : IntKind.i64.wrap ((mid : Int) + (m : Int) - (s : Int)) = (E : Int) := by rw [IntKind.wrap_i64]; omega
        have z8 : (mid : Int) + (m : Int) - (s : Int) = (E : Int) := by omega
        have w8 : IntKind.i64.wrap (E : Int) = (E : Int) := by rw [IntKind.wrap_i64]; omega
        have bd : a ≤ s ∧ s ≤ mid ∧ s ≤ m ∧ m ≤ E ∧ mid ≤ E ∧ E ≤ b := by
          have h1 := hlo.out
          have h2 := hhi.out
          by_cases c : mid < m
          · rw [if_pos c] at h1 h2; omega
          · rw [if_neg c] at h1 h2; omega
        obtain ⟨W0, hW0⟩ : ∃ W, W = sortWorldK encR 3 w g 0 n d os := ⟨_, rfl⟩
        rw [← hW0]
        have HW0 : Hid _ := hW0
        clear hW0
        go_upto_region 39 with fail
        go_cut [24, 185] from 178 to 185 (fun v24 vb wc => v24 = .int .i64 (E : Int) ∧ vb = .bool (decide (s < m ∧ m < E)) ∧ W0 = wc)
        case first =>
          by_cases c1 : s < m
          · have c1z : (s : Int) < (m : Int) := by omega
            by_cases c2 : m < E
            · have c2z : (m : Int) < (E : Int) := by omega
              go_wp2
              go_meet
              case rel => exact ⟨rfl, by simp [c1, c2], rfl⟩
            · have c2z : ¬ (m : Int) < (E : Int) := by omega
              go_wp2
              go_meet
              case rel => exact ⟨rfl, by simp [c1, c2], rfl⟩
          · have c1z : ¬ (s : Int) < (m : Int) := by omega
            go_wp2
            go_meet
            case rel => exact ⟨rfl, by simp [c1], rfl⟩
        case rest =>
          obtain ⟨rfl, rfl, rfl⟩ := hcut
          go_upto_if 185 with fail
          go_cut [24] from 185 to 191 (fun v24 wc => v24 = .int .i64 (E : Int) ∧ ∃ (n1 : Nat) (t : Array S45) (os1 : Array Obj), wc = sortWorldK encR 3 w g 0 n1 t os1 ∧ Hid (PermIn a b d t ∧ ∀ k, t[k]! = turned d s m E k))
          case first =>
            by_cases c : s < m ∧ m < E
            · have cb : decide (s < m ∧ m < E) = true := decide_eq_true c
              have hC := rotate_calls g cap s m E (.func (.func 70) #[] #[]) d W0 (HW0.out ▸ holdsK_sortWorldK_c encR 3 w g 0 d d n os HH.out HG.out rfl) (HW0.out ▸ Nat.lt_of_lt_of_le HG.out (size_sortWorldK_c encR 3 w g 0 n d os)) c.1 c.2 (by omega) hd
              have HC := Aside0.mk hC
              clear hC
              rw [cb]
              go_wp2_with fail
              refine HC.out.mono ?_
              rintro e w1 ⟨rfl, n', d', os', hx, hp, ht⟩
              have hx2 := hx
              rw [HW0.out, sw_trans g d d d' n n' os os' w rfl hp.1 HH.out HG.out] at hx2
              have HX := Aside0.mk (And.intro hx2 (And.intro hp ht))
              clear hx hx2 hp ht HC
              go_wp2
              go_meet
              case rel => exact ⟨rfl, _, d', _, HX.out.1, ⟨permIn_mono _ _ _ _ _ _ bd.1 bd.2.2.2.2.2 hb HX.out.2.1, HX.out.2.2⟩⟩
            · have cb : decide (s < m ∧ m < E) = false := decide_eq_false c
              rw [cb]
              go_wp2
              go_meet
              case rel => exact ⟨rfl, n, d, os, HW0.out, ⟨permIn_refl _ _ _, turned_id d s m E bd.2.2.1 bd.2.2.2.1 c⟩⟩
          case rest =>
            obtain ⟨rfl, n1, t, os1, rfl, hT⟩ := hcut
            have hts : t.size = d.size := hT.out.1.1
            have SP := sym_parts (swoKey rowKey) d a m b mid lo hi s (by omega) (by omega) (show mid = (a + b) / 2 by omega) hlo.out hhi.out HS.out.1 HS.out.2 HI.out (by omega) t (by rw [← hE.out]; exact hT.out.2)
            rw [← hE.out] at SP
            have HT : Hid _ := hT
            have HSP : Hid _ := SP
            clear hT SP
            obtain ⟨W1, hW1⟩ : ∃ W, W = sortWorldK encR 3 w g 0 n1 t os1 := ⟨_, rfl⟩
            rw [← hW1]
            have HW1 : Hid _ := hW1
            clear hW1
            go_upto_region 41 with fail
            go_cut [24, 199] from 192 to 199 (fun v24 vb wc => v24 = .int .i64 (E : Int) ∧ vb = .bool (decide (a < s ∧ s < mid)) ∧ W1 = wc)
            case first =>
              by_cases c1 : a < s
              · have c1z : (a : Int) < (s : Int) := by omega
                by_cases c2 : s < mid
                · have c2z : (s : Int) < (mid : Int) := by omega
                  go_wp2
                  go_meet
                  case rel => exact ⟨rfl, by simp [c1, c2], rfl⟩
                · have c2z : ¬ (s : Int) < (mid : Int) := by omega
                  go_wp2
                  go_meet
                  case rel => exact ⟨rfl, by simp [c1, c2], rfl⟩
              · have c1z : ¬ (a : Int) < (s : Int) := by omega
                go_wp2
                go_meet
                case rel => exact ⟨rfl, by simp [c1], rfl⟩
            case rest =>
              obtain ⟨rfl, rfl, rfl⟩ := hcut
              go_upto_if 199 with fail
              go_cut [24] from 199 to 205 (fun v24 wc => v24 = .int .i64 (E : Int) ∧ ∃ (n2 : Nat) (t1 : Array S45) (os2 : Array Obj), wc = sortWorldK encR 3 w g 0 n2 t1 os2 ∧ Hid (PermIn a mid t t1 ∧ SortedIn ltR a mid t1))
              case first =>
                by_cases c : a < s ∧ s < mid
                · have cb : decide (a < s ∧ s < mid) = true := decide_eq_true c
                  have hC := IH.out a s mid t W1 hts (HW1.out ▸ holdsK_sortWorldK_c encR 3 w g 0 d t n1 os1 HH.out HG.out hts) (HW1.out ▸ Nat.lt_of_lt_of_le HG.out (size_sortWorldK_c encR 3 w g 0 n1 t os1)) c.1 c.2 (by omega) (by omega) HSP.out.2.1 HSP.out.2.2.1
                  have HC := Aside0.mk hC
                  clear hC
                  rw [cb]
                  go_wp2_with fail
                  refine HC.out.mono ?_
                  rintro e w1 ⟨rfl, n', d', os', hx, hp, ht⟩
                  have hx2 := hx
                  rw [HW1.out, sw_trans g d t d' n1 n' os1 os' w hts hp.1 HH.out HG.out] at hx2
                  have HX := Aside0.mk (And.intro hx2 (And.intro hp ht))
                  clear hx hx2 hp ht HC
                  go_wp2
                  go_meet
                  case rel => exact ⟨rfl, _, d', _, HX.out.1, HX.out.2⟩
                · have cb : decide (a < s ∧ s < mid) = false := decide_eq_false c
                  rw [cb]
                  have q : SortedIn ltR a mid t := by
                    by_cases c1 : a < s
                    · have h_ := HSP.out.2.1
                      rwa [show s = mid by omega] at h_
                    · have h_ := HSP.out.2.2.1
                      rwa [show s = a by omega] at h_
                  go_wp2
                  go_meet
                  case rel => exact ⟨rfl, n1, t, os1, HW1.out, ⟨permIn_refl _ _ _, q⟩⟩
              case rest =>
                obtain ⟨rfl, n2, t1, os2, rfl, hT1⟩ := hcut
                have hts1 : t1.size = d.size := hT1.out.1.1.trans hts
                have same1 : ∀ i, mid ≤ i → i < b → t1[i]! = t[i]! := fun i h1 h2 => hT1.out.1.2.1 i (by omega)
                have r1 := sorted_same mid E t t1 HSP.out.2.2.2.1 (fun i h1 h2 => same1 i h1 (by omega))
                have r2 := sorted_same E b t t1 HSP.out.2.2.2.2.1 (fun i h1 h2 => same1 i (by omega) h2)
                have pm1 : PermIn a b d t1 := permIn_trans _ _ _ _ _ HT.out.1 (permIn_mono _ _ _ _ _ _ (Nat.le_refl _) (by omega) (by omega) hT1.out.1)
                have fin : ∀ t2, PermIn mid b t1 t2 → SortedIn ltR mid b t2 → PermIn a b d t2 ∧ SortedIn ltR a b t2 := fun t2 h1 h2 => by
                  refine ⟨permIn_trans _ _ _ _ _ pm1 (permIn_mono _ _ _ _ _ _ (by omega) (Nat.le_refl _) (by omega) h1), ?_⟩
                  exact joined_sorted a mid b t2 (sorted_same a mid t1 t2 hT1.out.2 (fun i h3 h4 => h1.2.1 i (by omega))) h2 (perm_cross a mid b t t1 t2 (by omega) (by omega) (by omega) hT1.out.1 h1 HSP.out.2.2.2.2.2)
                have FIN : Hid _ := fin
                have RR : Hid _ := And.intro r1 r2
                clear hT1 fin pm1 same1 r1 r2
                obtain ⟨W2, hW2⟩ : ∃ W, W = sortWorldK encR 3 w g 0 n2 t1 os2 := ⟨_, rfl⟩
                rw [← hW2]
                have HW2 : Hid _ := hW2
                clear hW2
                go_upto_region 43 with fail
                go_cut [24, 213] from 206 to 213 (fun v24 vb wc => v24 = .int .i64 (E : Int) ∧ vb = .bool (decide (mid < E ∧ E < b)) ∧ W2 = wc)
                case first =>
                  by_cases c1 : mid < E
                  · have c1z : (mid : Int) < (E : Int) := by omega
                    by_cases c2 : E < b
                    · have c2z : (E : Int) < (b : Int) := by omega
                      go_wp2
                      go_meet
                      case rel => exact ⟨rfl, by simp [c1, c2], rfl⟩
                    · have c2z : ¬ (E : Int) < (b : Int) := by omega
                      go_wp2
                      go_meet
                      case rel => exact ⟨rfl, by simp [c1, c2], rfl⟩
                  · have c1z : ¬ (mid : Int) < (E : Int) := by omega
                    go_wp2
                    go_meet
                    case rel => exact ⟨rfl, by simp [c1], rfl⟩
                case rest =>
                  obtain ⟨rfl, rfl, rfl⟩ := hcut
                  by_cases c : mid < E ∧ E < b
                  · have cb : decide (mid < E ∧ E < b) = true := decide_eq_true c
                    have hC := IH.out mid E b t1 W2 hts1 (HW2.out ▸ holdsK_sortWorldK_c encR 3 w g 0 d t1 n2 os2 HH.out HG.out hts1) (HW2.out ▸ Nat.lt_of_lt_of_le HG.out (size_sortWorldK_c encR 3 w g 0 n2 t1 os2)) c.1 c.2 hb (by omega) RR.out.1 RR.out.2
                    have HC := Aside0.mk hC
                    clear hC
                    rw [cb]
                    go_wp2_with fail
                    refine HC.out.mono ?_
                    rintro e w1 ⟨rfl, n', d', os', hx, hp, ht⟩
                    have hx2 := hx
                    rw [HW2.out, sw_trans g d t1 d' n2 n' os2 os' w hts1 hp.1 HH.out HG.out] at hx2
                    have HX := Aside0.mk (And.intro hx2 (And.intro hp ht))
                    clear hx hx2 hp ht HC
                    go_wp2
                    go_end0
                    exact ⟨rfl, _, d', _, HX.out.1, FIN.out d' HX.out.2.1 HX.out.2.2⟩
                  · have cb : decide (mid < E ∧ E < b) = false := decide_eq_false c
                    rw [cb]
                    have q : SortedIn ltR mid b t1 := by
                      by_cases c1 : mid < E
                      · have h_ := RR.out.1
                        rwa [show E = b by omega] at h_
                      · have h_ := RR.out.2
                        rwa [show E = mid by omega] at h_
                    have q2 := FIN.out t1 (permIn_refl _ _ _) q
                    go_wp2
                    go_end0
                    first
                    | exact ⟨rfl, n2, t1, ⟨os2, HW2.out⟩, q2⟩
                    | exact ⟨rfl, n2, t1, os2, HW2.out, q2⟩
theorem sym_all (g cap : Nat) : ∀ (N sz : Nat), sz ≤ 100000 → SymOk N g cap sz
  | 0, sz, hsz => fun a m b d w _ _ _ h1 h2 _ h3 => absurd h3 (by omega)
  | N + 1, sz, hsz => fun a m b d w hd hH hg h1 h2 h3 h4 s1 s2 => by
    subst hd
    by_cases c1 : m = a + 1
    · refine sym_left1 g cap a m b c1 d w hH hg (by omega) h3 hsz (by rw [← c1]; exact s2)
    · by_cases c2 : b = m + 1
      · have q := sym_right1 g cap a m b c2 d w hH hg (by omega) (by omega) hsz s1
        rw [← c2] at q
        exact q
      · exact sym_main N g cap a m b d w hH hg (by omega) (by omega) h3 (by omega) hsz s1 s2 (sym_all g cap N d.size hsz)
end Go.Proofs.YtfijhbfdkcajjaaGreatDoor.Pr

/- The contract of slices.stableCmpFunc at rows: at most 300 of them. -/
namespace Go.Proofs.YtfijhbfdkcajjaaGreatDoor.Pr
open Go.RowKit Go.Proofs.YtfijhbfdkcajjaaGreatDoorW.PrintWords Go.Proofs.YtfijhbfdkcajjaaGreatDoorW.PrintLast Go.Proofs.YtfijhbfdkcajjaaGreatDoorW.PrintMore Go.SortKey Go.Shelf Go.Sort Go.Lib Go.SymSort
set_option linter.unusedVariables false
set_option linter.unusedSimpArgs false
theorem ins_calls (g cap a b : Nat) (d : Array S45) (w : World) (hH : HoldsK encR 3 w g 0 d) (hg : g < w.heap.size) (hab : a ≤ b) (hb : b ≤ d.size) (hd : d.size ≤ 100000) :
    Calls Tryz.prog 111 #[.slice (some ⟨g, 0, none⟩) d.size cap, .int .i64 (a : Int), .int .i64 (b : Int), .func (.func 70) #[] #[]] w fun e w' => e = .returned (.tuple #[]) ∧ ∃ n d' os, w' = sortWorldK encR 3 w g 0 n d' os ∧ PermIn a b d d' ∧ SortedIn ltR a b d' := by
  have eg : ∀ args w, (callFunc 70 args).run Tryz.prog w = .ok (.enter 70 args) w := enters_of Tryz.func70 (by kernel_rfl) rfl
  refine (AnyQ.insertionSortCmpFunc Tryz.insRow 3 Tryz.isAgg45 Tryz.sizeOf45 encR encR_len encR_one (keyCmp rowKey) 70 #[] g 0 cap a b d w eg (fun m os dk _ x y => rowCmp_calls x y _) hH hg hab hb (by omega)).mono ?_
  rintro e w' ⟨rfl, n, os, hx⟩
  obtain ⟨h1, h2⟩ := insertionSort_holds (lt := ltR) (swoKey rowKey) d a b hab hb
  exact ⟨rfl, n, _, os, hx, h1, h2⟩
set_option maxRecDepth 100000 in
set_option maxHeartbeats 8000000 in
theorem stableL_calls (g cap : Nat) (d : Array S45) (w : World) (hH : HoldsK encR 3 w g 0 d) (hg : g < w.heap.size) (hn : d.size ≤ 300) :
    Calls Tryz.prog 92 #[.slice (some ⟨g, 0, none⟩) d.size cap, .int .i64 (d.size : Int), .func (.func 70) #[] #[]] w fun e w' => e = .returned (.tuple #[]) ∧ ∃ n d' os, w' = sortWorldK encR 3 w g 0 n d' os ∧ PermIn 0 d.size d d' ∧ SortedIn ltR 0 d.size d' := by
  have HST : Hid (w = sortWorldK encR 3 w g 0 0 d #[]) := by show w = _; unfold sortWorldK; rw [grow_empty]; exact (putRowK_self encR 3 w g 0 d hH).symm
  have hins : ∀ (n : Nat) (dk : Array S45) (os : Array Obj) (a b : Nat), PermIn 0 d.size d dk → a ≤ b → b ≤ d.size → Calls Tryz.prog 111 #[.slice (some ⟨g, 0, none⟩) d.size cap, .int .i64 (a : Int), .int .i64 (b : Int), .func (.func 70) #[] #[]] (sortWorldK encR 3 w g 0 n dk os) fun e w' => e = .returned (.tuple #[]) ∧ ∃ n' d' os', w' = sortWorldK encR 3 w g 0 n' d' os' ∧ PermIn a b dk d' ∧ SortedIn ltR a b d' := by
    intro n dk os a b hp h1 h2
    have hs := hp.1
    have hC := ins_calls g cap a b dk (sortWorldK encR 3 w g 0 n dk os) (holdsK_sortWorldK_c encR 3 w g 0 d dk n os hH hg hs) (Nat.lt_of_lt_of_le hg (size_sortWorldK_c encR 3 w g 0 n dk os)) h1 (by omega) (by omega)
    rw [hs] at hC
    refine hC.mono ?_
    rintro e w' ⟨rfl, n', d', os', rfl, h3, h4⟩
    exact ⟨rfl, _, d', _, sw_trans g d dk d' n n' os os' w hs h3.1 hH hg, h3, h4⟩
  have hsym : ∀ (n : Nat) (dk : Array S45) (os : Array Obj) (a m b : Nat), PermIn 0 d.size d dk → a < m → m < b → b ≤ d.size → SortedIn ltR a m dk → SortedIn ltR m b dk → Calls Tryz.prog 112 #[.slice (some ⟨g, 0, none⟩) d.size cap, .int .i64 (a : Int), .int .i64 (m : Int), .int .i64 (b : Int), .func (.func 70) #[] #[]] (sortWorldK encR 3 w g 0 n dk os) fun e w' => e = .returned (.tuple #[]) ∧ ∃ n' d' os', w' = sortWorldK encR 3 w g 0 n' d' os' ∧ PermIn a b dk d' ∧ SortedIn ltR a b d' := by
    intro n dk os a m b hp h1 h2 h3 s1 s2
    have hs := hp.1
    refine (sym_all g cap d.size d.size (by omega) a m b dk (sortWorldK encR 3 w g 0 n dk os) hs (holdsK_sortWorldK_c encR 3 w g 0 d dk n os hH hg hs) (Nat.lt_of_lt_of_le hg (size_sortWorldK_c encR 3 w g 0 n dk os)) h1 h2 h3 (by omega) s1 s2).mono ?_
    rintro e w' ⟨rfl, n', d', os', rfl, h3, h4⟩
    exact ⟨rfl, _, d', _, sw_trans g d dk d' n n' os os' w hs h3.1 hH hg, h3, h4⟩
  have HI := Aside0.mk hins
  have HM := Aside0.mk hsym
  clear hins hsym hH hg
  go_enter Tryz.func92, Tryz.ntmps92
  go_wp2_with fail
  go_loopg [7, 8] d.size (fun g1 va vb wr => ∃ (u a b n : Nat) (dk : Array S45) (os : Array Obj), va = .int .i64 (a : Int) ∧ vb = .int .i64 (b : Int) ∧ (b ≤ a + 20 ∧ a + 20 ≤ b) ∧ a ≤ d.size ∧ d.size - a ≤ g1 ∧ wr = sortWorldK encR 3 w g 0 n dk os ∧ Hid (a = u * 20 ∧ PermIn 0 d.size d dk ∧ ∀ i j, i < j → j < a → i / 20 = j / 20 → ltR dk[j]! dk[i]! = false))
  case atStart => exact ⟨0, 0, 20, 0, d, #[], rfl, rfl, ⟨by omega, by omega⟩, Nat.zero_le _, by omega, HST.out, ⟨rfl, permIn_refl _ _ _, fun i j _ h2 => absurd h2 (by omega)⟩⟩
  case round =>
    obtain ⟨u, a, b, n, dk, os, rfl, rfl, hba, had, hg1, rfl, hK⟩ := hrel
    have HK : Hid _ := hK
    clear hK
    by_cases hlt : b ≤ d.size
    · have hltz : (b : Int) ≤ (d.size : Int) := by omega
      obtain ⟨b2, hb2⟩ : ∃ b2, b2 = b + 20 := ⟨_, rfl⟩
      have e1 : IntKind.i64.wrap ((b : Int) + 20) = (b2 : Int) := by rw [IntKind.wrap_i64]; omega
      have z1 : (b : Int) + 20 = (b2 : Int) := by omega
      have w1 : IntKind.i64.wrap (b2 : Int) = (b2 : Int) := by rw [IntKind.wrap_i64]; omega
      have hb3 : b2 ≤ b + 20 ∧ b + 20 ≤ b2 := by omega
      clear hb2
      have hC := HI.out n dk os a b HK.out.2.1 (by omega) hlt
      have HC := Aside0.mk hC
      clear hC
      generalize sortWorldK encR 3 w g 0 n dk os = wq at HC ⊢
      go_wp2_with fail
      refine HC.out.mono ?_
      rintro e w1 ⟨rfl, n', d', os', hx, hp, ho⟩
      have HX := Aside0.mk (And.intro hx (And.intro hp ho))
      clear hx hp ho HC
      go_wp2
      go_roundg (d.size - b)
      case measure => omega
      case rel => exact ⟨u + 1, b, b2, n', d', os', rfl, rfl, hb3, hlt, Nat.le_refl _, HX.out.1, ⟨by have := HK.out.1; omega, permIn_trans _ _ _ _ _ HK.out.2.1 (permIn_mono _ _ _ _ _ _ (Nat.zero_le _) hlt (by have q_ := HK.out.2.1.1; omega) HX.out.2.1), first_step d.size a b u dk d' HK.out.1 hlt HK.out.2.2 HX.out.2.1 HX.out.2.2⟩⟩
    · have hltz : ¬ (b : Int) ≤ (d.size : Int) := by omega
      have hC := HI.out n dk os a d.size HK.out.2.1 had (Nat.le_refl _)
      have HC := Aside0.mk hC
      clear hC
      generalize sortWorldK encR 3 w g 0 n dk os = wq at HC ⊢
      go_wp2_with fail
      refine HC.out.mono ?_
      rintro e w1 ⟨rfl, n', d', os', hx, hp, ho⟩
      have HX : Hid (PermIn 0 d.size d d' ∧ Runs ltR 20 d.size d') := ⟨permIn_trans _ _ _ _ _ HK.out.2.1 (permIn_mono _ _ _ _ _ _ (Nat.zero_le _) (Nat.le_refl _) (by have q_ := HK.out.2.1.1; omega) hp), first_step d.size a d.size u dk d' HK.out.1 (Nat.le_refl _) HK.out.2.2 hp ho⟩
      have HW := Aside0.mk hx
      clear hx hp ho HC
      go_wp2_with fail
      go_loopg [6] 400 (fun g2 vs wr2 => ∃ (s n2 : Nat) (d2 : Array S45) (os2 : Array Obj), vs = .int .i64 (s : Int) ∧ (20 ≤ s ∧ s ≤ 320) ∧ 400 - s ≤ g2 ∧ wr2 = sortWorldK encR 3 w g 0 n2 d2 os2 ∧ Hid ((Size4 s ∨ s = 320) ∧ PermIn 0 d.size d d2 ∧ Runs ltR s d.size d2))
      case atStart => exact ⟨20, n', d', os', rfl, ⟨by omega, by omega⟩, by omega, HW.out, ⟨.inl (.inl rfl), HX.out⟩⟩
      case round =>
        obtain ⟨s, n2, d2, os2, rfl, hs, hg2, rfl, hK2⟩ := hrel
        have HK2 : Hid _ := hK2
        clear hK2
        by_cases hsn : s < d.size
        · have hsnz : (s : Int) < (d.size : Int) := by omega
          have hs4 : Hid (Size4 s) := HK2.out.1.resolve_right (by omega)
          have hs6 : s ≤ 160 := by rcases hs4.out with h | h | h | h <;> omega
          have hnext : Hid (Size4 (2 * s) ∨ 2 * s = 320) := by
            show Size4 (2 * s) ∨ 2 * s = 320
            rcases hs4.out with rfl | rfl | rfl | rfl
            · exact .inl (.inr (.inl rfl))
            · exact .inl (.inr (.inr (.inl rfl)))
            · exact .inl (.inr (.inr (.inr rfl)))
            · exact .inr rfl
          obtain ⟨s2, hs2⟩ : ∃ s2, s2 = 2 * s := ⟨_, rfl⟩
          have HS2 : Hid (s2 = 2 * s) := hs2
          have hs3 : s2 ≤ 2 * s ∧ 2 * s ≤ s2 := by omega
          have e1 : IntKind.i64.wrap (2 * (s : Int)) = (s2 : Int) := by rw [IntKind.wrap_i64]; omega
          have z1 : 2 * (s : Int) = (s2 : Int) := by omega
          have e2 : IntKind.i64.wrap ((s : Int) * 2) = (s2 : Int) := by rw [IntKind.wrap_i64]; omega
          have z2 : (s : Int) * 2 = (s2 : Int) := by omega
          have w2 : IntKind.i64.wrap (s2 : Int) = (s2 : Int) := by rw [IntKind.wrap_i64]; omega
          clear hs2
          go_wp2_with fail
          go_loopg [7, 8] d.size (fun g3 va vb wr3 => ∃ (u a b n3 : Nat) (d3 : Array S45) (os3 : Array Obj), va = .int .i64 (a : Int) ∧ vb = .int .i64 (b : Int) ∧ (b ≤ a + s2 ∧ a + s2 ≤ b) ∧ a ≤ d.size ∧ d.size - a ≤ g3 ∧ wr3 = sortWorldK encR 3 w g 0 n3 d3 os3 ∧ Hid (a = u * (2 * s) ∧ PermIn 0 d.size d d3 ∧ Mid ltR s d.size a d3))
          case atStart => exact ⟨0, 0, s2, n2, d2, os2, rfl, rfl, ⟨by omega, by omega⟩, Nat.zero_le _, by omega, rfl, ⟨by omega, HK2.out.2.1, mid_start s d.size d2 HK2.out.2.2⟩⟩
          case round =>
            obtain ⟨u, a, b, n3, d3, os3, rfl, rfl, hba3, had3, hg3, rfl, hK3⟩ := hrel
            have HK3 : Hid _ := hK3
            clear hK3
            have R := mid_runs s d.size a u d3 hs4.out HK3.out.1 HK3.out.2.2
            obtain ⟨M, hM⟩ : ∃ M, M = a + s := ⟨_, rfl⟩
            have hM1 : M ≤ a + s ∧ a + s ≤ M := by omega
            have HMM : Hid (M = a + s) := hM
            have e3 : IntKind.i64.wrap ((a : Int) + (s : Int)) = (M : Int) := by rw [IntKind.wrap_i64]; omega
            have z3 : (a : Int) + (s : Int) = (M : Int) := by omega
            have w3 : IntKind.i64.wrap (M : Int) = (M : Int) := by rw [IntKind.wrap_i64]; omega
            clear hM
            by_cases hlt2 : b ≤ d.size
            · have hltz2 : (b : Int) ≤ (d.size : Int) := by omega
              obtain ⟨b2, hb2⟩ : ∃ b2, b2 = b + s2 := ⟨_, rfl⟩
              have e4 : IntKind.i64.wrap ((b : Int) + (s2 : Int)) = (b2 : Int) := by rw [IntKind.wrap_i64]; omega
              have z4 : (b : Int) + (s2 : Int) = (b2 : Int) := by omega
              have w4 : IntKind.i64.wrap (b2 : Int) = (b2 : Int) := by rw [IntKind.wrap_i64]; omega
              have hb3 : b2 ≤ b + s2 ∧ b + s2 ≤ b2 := by omega
              clear hb2
              have hC := HM.out n3 d3 os3 a M b HK3.out.2.1 (by omega) (by omega) hlt2 (R.1 M (by omega) (by omega)) (by have h_ := R.2 b hlt2 (by omega); rw [← HMM.out] at h_; exact h_)
              have HC := Aside0.mk hC
              clear hC R
              generalize sortWorldK encR 3 w g 0 n3 d3 os3 = wq at HC ⊢
              go_wp2_with fail
              refine HC.out.mono ?_
              rintro e w1 ⟨rfl, n', d', os', hx, hp, ho⟩
              have HX := Aside0.mk (And.intro hx (And.intro hp ho))
              clear hx hp ho HC
              go_wp2
              go_roundg (d.size - b)
              case measure => omega
              case rel => exact ⟨u + 1, b, b2, n', d', os', rfl, rfl, hb3, hlt2, Nat.le_refl _, HX.out.1, ⟨by rw [Nat.add_mul, ← HK3.out.1, Nat.one_mul]; omega, permIn_trans _ _ _ _ _ HK3.out.2.1 (permIn_mono _ _ _ _ _ _ (Nat.zero_le _) hlt2 (by have q_ := HK3.out.2.1.1; omega) HX.out.2.1), mid_step s d.size a b u d3 d' hs4.out HK3.out.1 (by omega) hlt2 HK3.out.2.2 HX.out.2.1 HX.out.2.2⟩⟩
            · have hltz2 : ¬ (b : Int) ≤ (d.size : Int) := by omega
              by_cases hm : M < d.size
              · have hmz : (M : Int) < (d.size : Int) := by omega
                have hC := HM.out n3 d3 os3 a M d.size HK3.out.2.1 (by omega) hm (Nat.le_refl _) (R.1 M (by omega) (by omega)) (by have h_ := R.2 d.size (Nat.le_refl _) (by omega); rw [← HMM.out] at h_; exact h_)
                have HC := Aside0.mk hC
                clear hC R
                generalize sortWorldK encR 3 w g 0 n3 d3 os3 = wq at HC ⊢
                go_wp2_with fail
                refine HC.out.mono ?_
                rintro e w1 ⟨rfl, n', d', os', hx, hp, ho⟩
                have HX := Aside0.mk (And.intro hx (And.intro hp ho))
                clear hx hp ho HC
                go_wp2
                go_roundg (400 - s2)
                case measure => omega
                case rel => exact ⟨s2, n', d', os', rfl, ⟨by omega, by omega⟩, Nat.le_refl _, HX.out.1, ⟨by rw [HS2.out]; exact hnext.out, permIn_trans _ _ _ _ _ HK3.out.2.1 (permIn_mono _ _ _ _ _ _ (Nat.zero_le _) (Nat.le_refl _) (by have q_ := HK3.out.2.1.1; omega) HX.out.2.1), by rw [HS2.out]; exact mid_last s d.size a u d3 d' hs4.out HK3.out.1 (by omega) HK3.out.2.2 HX.out.2.1 HX.out.2.2⟩⟩
              · have hmz : ¬ (M : Int) < (d.size : Int) := by omega
                clear R
                go_wp2
                go_roundg (400 - s2)
                case measure => omega
                case rel => exact ⟨s2, n3, d3, os3, rfl, ⟨by omega, by omega⟩, Nat.le_refl _, rfl, ⟨by rw [HS2.out]; exact hnext.out, HK3.out.2.1, by rw [HS2.out]; exact mid_short s d.size a u d3 hs4.out HK3.out.1 (by omega) HK3.out.2.2⟩⟩
        · have hsnz : ¬ (s : Int) < (d.size : Int) := by omega
          go_wp2
          go_end0
          first
          | exact ⟨rfl, n2, d2, os2, rfl, HK2.out.2.1, runs_all s d.size d2 (by omega) HK2.out.2.2⟩
          | exact ⟨rfl, n2, d2, ⟨os2, rfl⟩, HK2.out.2.1, runs_all s d.size d2 (by omega) HK2.out.2.2⟩
end Go.Proofs.YtfijhbfdkcajjaaGreatDoor.Pr

/- The contract of row.Sort: fewer than twenty rows, or at most 300 of unlike Ids. -/
namespace Go.Proofs.YtfijhbfdkcajjaaGreatDoor.Pr
open Go.RowKit Go.Proofs.YtfijhbfdkcajjaaGreatDoorW.PrintWords Go.Proofs.YtfijhbfdkcajjaaGreatDoorW.PrintLast Go.Proofs.YtfijhbfdkcajjaaGreatDoorW.PrintMore Go.SortKey Go.Shelf Go.Sort Go.Lib Go.SymSort
set_option linter.unusedVariables false
set_option linter.unusedSimpArgs false
set_option maxRecDepth 100000 in
theorem sortStableL_calls (g cap : Nat) (d : Array S45) (w : World) (hH : HoldsK encR 3 w g 0 d) (hg : g < w.heap.size) (hn : d.size ≤ 300) :
    Calls Tryz.prog 69 #[.slice (some ⟨g, 0, none⟩) d.size cap, .func (.func 70) #[] #[]] w fun e w' => e = .returned (.tuple #[]) ∧ ∃ n d' os, w' = sortWorldK encR 3 w g 0 n d' os ∧ PermIn 0 d.size d d' ∧ SortedIn ltR 0 d.size d' := by
  have HC := Aside0.mk (stableL_calls g cap d w hH hg hn)
  clear hH hg hn
  go_enter Tryz.func69, Tryz.ntmps69
  go_wp2_with fail
  refine HC.out.mono ?_
  rintro e w1 ⟨rfl, hx⟩
  go_wp2
  go_end0
  exact ⟨rfl, hx⟩
set_option maxRecDepth 100000 in
set_option maxHeartbeats 4000000 in
theorem rowSortL_calls (A0 : Option Addr) (c0 : Nat) (l : List S45) (w : World) (hr : Kd.C k45 w A0 l.length l) (hl : l.length ≤ 300) (hk : ∀ x, x ∈ l → ∀ y, y ∈ l → (rowKey x).toList = (rowKey y).toList → x = y) :
    Calls Tryz.prog 54 #[.slice A0 l.length c0] w fun e w' => ∃ A c, e = .returned (.slice A l.length c) ∧ Kd.C k45 w' A l.length (insSort rowKey l) ∧ Below w.heap.size w w' ∧ ∀ ad, A = some ad → w.heap.size ≤ ad.block := by
  have hinfo : (Tryz.prog.info? 45).map (fun i => (i.zero, i.size, i.bytes)) = some (some (.agg #[.string ⟨#[]⟩, .int .u64 0, .int .u64 0]), 3, 32) := by kernel_rfl
  have hmk : ∀ W, (Instr.makeSlice 23 (.int .i64 (l.length : Int)) (.int .i64 (l.length : Int))).run Tryz.prog W = .ok (.slice (some ⟨W.heap.size, 0, none⟩) l.length l.length) (W.alloc (.cells (madeCells #[.string ⟨#[]⟩, .int .u64 0, .int .u64 0] (l.length * 3)) 45)) := fun W => by
    obtain ⟨i, hi, hzz⟩ := Option.map_eq_some_iff.1 hinfo
    simp only [Prod.mk.injEq] at hzz
    obtain ⟨hz0, hz1, hz2⟩ := hzz
    have := run_make (P := Tryz.prog) W 23 45 i _ Tryz.underlying23 hi hz0 .i64 .i64 (l.length : Int) (l.length : Int) (by omega) (by omega) (by rw [hz2]; omega) (by omega)
    rw [Int.toNat_natCast, hz1] at this
    exact this
  have hcp : (Builtin.copy_ #[23, 23] 3 #[.slice (some ⟨w.heap.size, 0, none⟩) l.length l.length, .slice A0 l.length c0]).run Tryz.prog (w.alloc (.cells (madeCells #[.string ⟨#[]⟩, .int .u64 0, .int .u64 0] (l.length * 3)) 45)) = .ok (goInt l.length) ((w.alloc (.cells (madeCells #[.string ⟨#[]⟩, .int .u64 0, .int .u64 0] (l.length * 3)) 45)).setRow w.heap.size (flatK encR 3 l.toArray)) := by
    have := CopyK.run_copyK (P := Tryz.prog) (w.alloc (.cells (madeCells #[.string ⟨#[]⟩, .int .u64 0, .int .u64 0] (l.length * 3)) 45)) 23 23 3 45 3 w.heap.size l.length l.length c0 A0 (madeCells #[.string ⟨#[]⟩, .int .u64 0, .int .u64 0] (l.length * 3)) 45 (flatK encR 3 l.toArray).toList Tryz.underlying23 (by kernel_rfl) (heap_alloc_new w _) (by simp) (by rw [Array.length_toList, size_flatK, size_madeCells, List.size_toArray]) (row_cells (Kd.C_alloc hr _)) (flat_one l) (fun _ => by decide)
    rwa [Array.toArray_toList] at this
  have hW2 : (((w.alloc (.cells (madeCells #[.string ⟨#[]⟩, .int .u64 0, .int .u64 0] (l.length * 3)) 45)).setRow w.heap.size (flatK encR 3 l.toArray))).heap[w.heap.size]? = some (.cells (flatK encR 3 l.toArray) 45 (0, 0)) := setRow_heap _ _ _ _ _ _ (heap_alloc_new w _)
  have hB2 : Below w.heap.size w ((w.alloc (.cells (madeCells #[.string ⟨#[]⟩, .int .u64 0, .int .u64 0] (l.length * 3)) 45)).setRow w.heap.size (flatK encR 3 l.toArray)) := RowStore.below_setRow ((Below.refl _ _).alloc (Nat.le_refl _) _) (Nat.le_refl _) _
  generalize (w.alloc (.cells (madeCells #[.string ⟨#[]⟩, .int .u64 0, .int .u64 0] (l.length * 3)) 45)).setRow w.heap.size (flatK encR 3 l.toArray) = w2 at hcp hW2 hB2
  have hH : HoldsK encR 3 w2 w.heap.size 0 l.toArray := fun j hj => by
    rw [size_flatK] at hj
    refine ⟨?_, ?_⟩
    · rw [Nat.zero_add, blk_cell hW2 j, Array.getElem?_eq_getElem (by rw [size_flatK]; exact hj), getElem!_pos _ j (by rw [size_flatK]; exact hj)]; rfl
    · rw [Nat.zero_add]; exact blk_frozen hW2 j
  have hS := sortStableL_calls w.heap.size l.length l.toArray w2 hH (blk_lt hW2) (by simpa using hl)
  have es : l.toArray.size = l.length := by simp
  rw [es] at hS
  have HK := Aside0.mk hk
  clear hk
  have HS := Aside0.mk hS
  have HH := Aside0.mk hH
  have HB := Aside0.mk hB2
  have HW := Aside0.mk (blk_lt hW2)
  clear hr hinfo hW2 hB2 hH hS es
  go_enter Tryz.func54, Tryz.ntmps54
  go_wp2_with fail
  refine HS.out.mono ?_
  rintro e w3 ⟨rfl, n, d', os, hx, hpm, hso⟩
  have hlen := (insSort_sorts rowKey l).1
  have hins : d' = (insSort rowKey l).toArray := by
    have hsz : d'.toList.length = l.length := by have := hpm.1; simpa using this
    obtain ⟨p1, o1⟩ := ordered_of rowKey l d'.toList hsz (by rw [Array.toArray_toList]; exact hpm) (by rw [Array.toArray_toList]; exact hso)
    obtain ⟨_, p2, o2⟩ := insSort_sorts rowKey l
    have e := ordered_unique rowKey d'.toList (insSort rowKey l) (p1.trans p2.symm) o1 o2 (fun x hx y hy => HK.out x (p1.mem_iff.1 hx) y (p1.mem_iff.1 hy))
    rw [← e, Array.toArray_toList]
  rw [hins] at hx
  have hh := holdsK_sortWorldK_c encR 3 w2 w.heap.size 0 l.toArray (insSort rowKey l).toArray n os HH.out HW.out (by simpa using hlen)
  rw [← hx] at hh
  have hC := rowHolds_reads (by omega) hh
  rw [hlen] at hC
  have hB3 : Below w.heap.size w w3 := by
    rw [hx]
    refine HB.out.trans ⟨rfl, rfl, rfl, ?_, fun k hk => ?_⟩
    · show w2.heap.size ≤ ((w2.heap.modify w.heap.size _) ++ os).size
      rw [Array.size_append, Array.size_modify]; omega
    · show ((w2.heap.modify w.heap.size _) ++ os)[k]? = w2.heap[k]?
      have := HW.out
      rw [Array.getElem?_append_left (by rw [Array.size_modify]; omega), Array.getElem?_modify, if_neg (by omega)]
  have HC3 := Aside0.mk hC
  have HB3 := Aside0.mk hB3
  clear hx hh hC hB3 hins hlen hpm hso
  go_wp2
  go_ret
  exact ⟨_, _, rfl, HC3.out, HB3.out, fun ad e => by cases e; exact Nat.le_refl _⟩
/-- Rows that row.Sort's contract serves. -/
def Sortable (l : List S45) : Prop := l.length < 20 ∨ (l.length ≤ 300 ∧ ∀ x, x ∈ l → ∀ y, y ∈ l → (rowKey x).toList = (rowKey y).toList → x = y)
theorem Sortable.len {l : List S45} (h : Sortable l) : l.length ≤ 300 := by rcases h with h | h <;> omega
theorem rowSortS_calls (A0 : Option Addr) (c0 : Nat) (l : List S45) (w : World) (hr : Kd.C k45 w A0 l.length l) (hl : Sortable l) :
    Calls Tryz.prog 54 #[.slice A0 l.length c0] w fun e w' => ∃ A c, e = .returned (.slice A l.length c) ∧ Kd.C k45 w' A l.length (insSort rowKey l) ∧ Below w.heap.size w w' ∧ ∀ ad, A = some ad → w.heap.size ≤ ad.block := by
  rcases hl with h | ⟨h1, h2⟩
  · exact rowSort_calls A0 c0 l w hr h
  · exact rowSortL_calls A0 c0 l w hr h1 h2
end Go.Proofs.YtfijhbfdkcajjaaGreatDoor.Pr
