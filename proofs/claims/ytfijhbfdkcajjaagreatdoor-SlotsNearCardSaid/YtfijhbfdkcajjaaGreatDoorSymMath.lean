/- Plain: two runs in order, merged in place by turns of blocks. -/
import Derived.Sort.LotA
namespace Go.SymSort
open Go.Sort
variable {α : Type} [Inhabited α]
set_option linter.unusedSectionVars false
set_option linter.unusedVariables false
/-- n exchanges of two blocks' places. -/
def swapR (d : Array α) (a b : Nat) : Nat → Array α
  | 0 => d
  | i + 1 => swp (swapR d a b i) (a + i) (b + i)
theorem size_swapR (d : Array α) (a b : Nat) : ∀ i, (swapR d a b i).size = d.size
  | 0 => rfl
  | i + 1 => by rw [swapR, size_swp, size_swapR d a b i]
theorem swapR_perm (lo hi : Nat) (d : Array α) (a b : Nat) (hd : hi ≤ d.size) (ha : lo ≤ a) (hb : lo ≤ b) : ∀ i, a + i ≤ hi → b + i ≤ hi → PermIn lo hi d (swapR d a b i)
  | 0, _, _ => permIn_refl d lo hi
  | i + 1, h1, h2 => permIn_trans _ _ _ _ _ (swapR_perm lo hi d a b hd ha hb i (by omega) (by omega)) (swp_permIn _ lo hi (a + i) (b + i) (by omega) (by omega) (by omega) (by omega) (by rw [size_swapR]; exact hd))
theorem swapR_get (d : Array α) (a b n : Nat) (hab : a + n ≤ b) (hb : b + n ≤ d.size) : ∀ i, i ≤ n → ∀ k, (swapR d a b i)[k]! = if a ≤ k ∧ k < a + i then d[k - a + b]! else if b ≤ k ∧ k < b + i then d[k - b + a]! else d[k]!
  | 0, _, k => by rw [if_neg (by omega), if_neg (by omega)]; rfl
  | i + 1, hi, k => by
    have ih := swapR_get d a b n hab hb i (by omega)
    rw [swapR, swp_get _ (by rw [size_swapR]; omega) (by rw [size_swapR]; omega), ih, ih, ih]
    by_cases h1 : k = b + i
    · subst h1
      rw [if_pos rfl, if_neg (by omega), if_neg (by omega), if_neg (by omega), if_pos (by omega)]
      congr 1; omega
    · rw [if_neg h1]
      by_cases h2 : k = a + i
      · subst h2
        rw [if_pos rfl, if_neg (by omega), if_neg (by omega), if_pos (by omega)]
        congr 1; omega
      · rw [if_neg h2]
        by_cases h3 : a ≤ k ∧ k < a + i
        · rw [if_pos h3, if_pos (by omega)]
        · rw [if_neg h3]
          by_cases h4 : b ≤ k ∧ k < b + i
          · rw [if_pos h4, if_neg (by omega), if_pos (by omega)]
          · rw [if_neg h4, if_neg (by omega), if_neg (by omega)]
/-- What two blocks, turned about their border, come to. -/
def turned (d : Array α) (a m b : Nat) (k : Nat) : α := if a ≤ k ∧ k < a + (b - m) then d[k + (m - a)]! else if a + (b - m) ≤ k ∧ k < b then d[k - (b - m)]! else d[k]!
/-- On the way to it: i and j places are still to be turned about m. -/
def TurnInv (t : Nat → α) (m i j : Nat) (dk : Array α) : Prop :=
  (∀ k, m - i ≤ k → k < m - i + j → t k = dk[k + i]!) ∧ (∀ k, m - i + j ≤ k → k < m + j → t k = dk[k - j]!) ∧ ∀ k, k < m - i ∨ m + j ≤ k → t k = dk[k]!
theorem turn_start (d : Array α) (a m b : Nat) (h1 : a ≤ m) (h2 : m ≤ b) : TurnInv (turned d a m b) m (m - a) (b - m) d := by
  refine ⟨fun k h3 h4 => ?_, fun k h3 h4 => ?_, fun k h3 => ?_⟩
  · unfold turned; rw [if_pos (by omega)]
  · unfold turned; rw [if_neg (by omega), if_pos (by omega)]
  · unfold turned; rw [if_neg (by omega), if_neg (by omega)]
theorem turn_left (t : Nat → α) (m i j : Nat) (dk : Array α) (h : TurnInv t m i j dk) (hi : i ≤ m) (hij : j < i) (hd : m + j ≤ dk.size) : TurnInv t m (i - j) j (swapR dk (m - i) m j) := by
  obtain ⟨h1, h2, h3⟩ := h
  have g := swapR_get dk (m - i) m j (by omega) (by omega) j (Nat.le_refl _)
  refine ⟨fun k h4 h5 => ?_, fun k h4 h5 => ?_, fun k h4 => ?_⟩
  · rw [g]
    by_cases c : m ≤ k + (i - j)
    · rw [if_neg (by omega), if_pos (by omega), h2 k (by omega) (by omega)]
      congr 1; omega
    · omega
  · rw [g, if_neg (by omega), if_neg (by omega), h2 k (by omega) (by omega)]
  · rw [g]
    by_cases c : m - i ≤ k ∧ k < m - i + j
    · rw [if_pos c, h1 k (by omega) (by omega)]
      congr 1; omega
    · rw [if_neg c, if_neg (by omega), h3 k (by omega)]
theorem turn_right (t : Nat → α) (m i j : Nat) (dk : Array α) (h : TurnInv t m i j dk) (hi : i ≤ m) (hij : i < j) (hd : m + j ≤ dk.size) : TurnInv t m i (j - i) (swapR dk (m - i) (m + j - i) i) := by
  obtain ⟨h1, h2, h3⟩ := h
  have g := swapR_get dk (m - i) (m + j - i) i (by omega) (by omega) i (Nat.le_refl _)
  refine ⟨fun k h4 h5 => ?_, fun k h4 h5 => ?_, fun k h4 => ?_⟩
  · rw [g, if_neg (by omega), if_neg (by omega), h1 k (by omega) (by omega)]
  · rw [g, if_pos (by omega), h1 k (by omega) (by omega)]
    congr 1; omega
  · rw [g]
    by_cases c : m + j - i ≤ k ∧ k < m + j - i + i
    · rw [if_neg (by omega), if_pos c, h2 k (by omega) (by omega)]
      congr 1; omega
    · rw [if_neg (by omega), if_neg c, h3 k (by omega)]
theorem turn_end (t : Nat → α) (m i : Nat) (dk : Array α) (h : TurnInv t m i i dk) (hi : i ≤ m) (hd : m + i ≤ dk.size) : ∀ k, (swapR dk (m - i) m i)[k]! = t k := by
  obtain ⟨h1, h2, h3⟩ := h
  have g := swapR_get dk (m - i) m i (by omega) (by omega) i (Nat.le_refl _)
  intro k
  rw [g]
  by_cases c : m - i ≤ k ∧ k < m - i + i
  · rw [if_pos c, h1 k (by omega) (by omega)]
    congr 1; omega
  · rw [if_neg c]
    by_cases e : m ≤ k ∧ k < m + i
    · rw [if_pos e, h2 k (by omega) (by omega)]
      congr 1; omega
    · rw [if_neg e, h3 k (by omega)]
/-! ### the border found by halving -/
/-- How far one half of two runs in order has been searched: all ahead of s may stay, none from r on may. -/
def SymInv (lt : α → α → Bool) (d : Array α) (p lo hi s r : Nat) : Prop :=
  lo ≤ s ∧ s ≤ r ∧ r ≤ hi ∧ (∀ c, lo ≤ c → c < s → lt d[p - c]! d[c]! = false) ∧ ∀ c, r ≤ c → c < hi → lt d[p - c]! d[c]! = true
variable {lt : α → α → Bool}
theorem SWO.le_trans' (h : SWO lt) {x y z : α} (h1 : lt y x = false) (h2 : lt z y = false) : lt z x = false := h.ntrans z y x h2 h1
/-- What two halves in order, with all of the left below all of the right, come to. -/
theorem joined_sorted (a c b : Nat) (d : Array α) (h1 : SortedIn lt a c d) (h2 : SortedIn lt c b d) (h3 : ∀ i j, a ≤ i → i < c → c ≤ j → j < b → lt d[j]! d[i]! = false) : SortedIn lt a b d := by
  intro i j hi hij hj
  by_cases e1 : j < c
  · exact h1 i j hi hij e1
  · by_cases e2 : c ≤ i
    · exact h2 i j e2 hij hj
    · exact h3 i j hi (by omega) (by omega) hj
theorem perm_cross (a c b : Nat) (d d' d'' : Array α) (hb : b ≤ d.size) (hac : a ≤ c) (hcb : c ≤ b) (h1 : PermIn a c d d') (h2 : PermIn c b d' d'') (h3 : ∀ i j, a ≤ i → i < c → c ≤ j → j < b → lt d[j]! d[i]! = false) : ∀ i j, a ≤ i → i < c → c ≤ j → j < b → lt d''[j]! d''[i]! = false := by
  have e1 : ∀ i, a ≤ i → i < c → ∀ j, c ≤ j → j < b → lt d[j]! d'[i]! = false :=
    permIn_all d d' a c (fun x => ∀ j, c ≤ j → j < b → lt d[j]! x = false) (by omega) h1 (fun i hi hic j hcj hjb => h3 i j hi hic hcj hjb)
  have e2 : ∀ j, c ≤ j → j < b → ∀ i, a ≤ i → i < c → lt d''[j]! d'[i]! = false :=
    permIn_all d' d'' c b (fun x => ∀ i, a ≤ i → i < c → lt x d'[i]! = false) (by rw [h1.1]; exact hb) h2 (fun j hj hjb i hi hic => by
      rw [h1.2.1 j (by omega)]; exact e1 i hi hic j hj hjb)
  intro i j hi hic hj hjb
  rw [h2.2.1 i (by omega)]
  exact e2 j hj hjb i hi hic
/-- A run in order that stays where it lies, seen behind a change elsewhere. -/
theorem sorted_same (a b : Nat) (d d' : Array α) (h : SortedIn lt a b d) (e : ∀ i, a ≤ i → i < b → d'[i]! = d[i]!) : SortedIn lt a b d' := by
  intro i j hi hij hj
  rw [e i hi (by omega), e j (by omega) hj]
  exact h i j hi hij hj
/-- The halves of a merge behind the turn. -/
theorem sym_parts (h : SWO lt) (d : Array α) (a m b mid lo hi s : Nat) (ham : a ≤ m) (hmb : m ≤ b) (hmid : mid = (a + b) / 2)
    (hlo : lo = if mid < m then mid + m - b else a) (hhi : hi = if mid < m then mid else m) (hs1 : SortedIn lt a m d) (hs2 : SortedIn lt m b d)
    (hI : SymInv lt d (mid + m - 1) lo hi s s) (h2 : 2 ≤ b - a) (t : Array α) (ht : ∀ k, t[k]! = turned d s m (mid + m - s) k) :
    (a ≤ s ∧ s ≤ mid ∧ s ≤ m ∧ m ≤ mid + m - s ∧ mid ≤ mid + m - s ∧ mid + m - s ≤ b) ∧ SortedIn lt a s t ∧ SortedIn lt s mid t ∧ SortedIn lt mid (mid + m - s) t ∧ SortedIn lt (mid + m - s) b t ∧ ∀ i j, a ≤ i → i < mid → mid ≤ j → j < b → lt t[j]! t[i]! = false := by
  obtain ⟨i1, i2, i3, i4, i5⟩ := hI
  have hb : a ≤ s ∧ s ≤ mid ∧ s ≤ m ∧ m ≤ mid + m - s ∧ mid ≤ mid + m - s ∧ mid + m - s ≤ b := by
    by_cases c : mid < m
    · rw [if_pos c] at hlo hhi; omega
    · rw [if_neg c] at hlo hhi; omega
  obtain ⟨b1, b2, b3, b4, b5, b6⟩ := hb
  have t1 : ∀ k, a ≤ k → k < s → t[k]! = d[k]! := fun k h1 h2 => by rw [ht]; unfold turned; rw [if_neg (by omega), if_neg (by omega)]
  have t2 : ∀ k, s ≤ k → k < mid → t[k]! = d[k + (m - s)]! := fun k h1 h2 => by rw [ht]; unfold turned; rw [if_pos (by omega)]
  have t3 : ∀ k, mid ≤ k → k < mid + m - s → t[k]! = d[k - (mid - s)]! := fun k h1 h2 => by
    rw [ht]; unfold turned; rw [if_neg (by omega), if_pos (by omega)]; congr 1; omega
  have t4 : ∀ k, mid + m - s ≤ k → k < b → t[k]! = d[k]! := fun k h1 h2 => by rw [ht]; unfold turned; rw [if_neg (by omega), if_neg (by omega)]
  -- the four old runs
  have o1 : ∀ i j, a ≤ i → i ≤ j → j < m → lt d[j]! d[i]! = false := fun i j h1 h2 h3 => by
    rcases Nat.eq_or_lt_of_le h2 with rfl | h4
    · exact h.irrefl _
    · exact hs1 i j h1 h4 h3
  have o2 : ∀ i j, m ≤ i → i ≤ j → j < b → lt d[j]! d[i]! = false := fun i j h1 h2 h3 => by
    rcases Nat.eq_or_lt_of_le h2 with rfl | h4
    · exact h.irrefl _
    · exact hs2 i j h1 h4 h3
  -- the crossings
  have x1 : ∀ i j, m ≤ i → i < mid + m - s → s ≤ j → j < m → lt d[j]! d[i]! = false := fun i j h1 h2 h3 h4 => by
    have hlt : s < hi := by
      by_cases c : mid < m
      · rw [if_pos c] at hhi; omega
      · rw [if_neg c] at hhi; omega
    have e := i5 s (Nat.le_refl _) hlt
    have e1 : lt d[s]! d[mid + m - 1 - s]! = false := SWO.asymmA h e
    have e2 : lt d[mid + m - 1 - s]! d[i]! = false := o2 i _ h1 (by omega) (by omega)
    have e3 : lt d[j]! d[s]! = false := o1 s j b1 h3 h4
    exact SWO.le_trans' h (SWO.le_trans' h e2 e1) e3
  have x2 : ∀ i j, a ≤ i → i < s → mid + m - s ≤ j → j < b → lt d[j]! d[i]! = false := fun i j h1 h2 h3 h4 => by
    have hlt : lo ≤ s - 1 ∧ s - 1 < s := by
      by_cases c : mid < m
      · rw [if_pos c] at hlo; omega
      · rw [if_neg c] at hlo; omega
    have e := i4 (s - 1) hlt.1 hlt.2
    rw [show mid + m - 1 - (s - 1) = mid + m - s by omega] at e
    have e2 : lt d[s - 1]! d[i]! = false := o1 i _ h1 (by omega) (by omega)
    have e3 : lt d[j]! d[mid + m - s]! = false := o2 _ j (by omega) h3 h4
    exact SWO.le_trans' h (SWO.le_trans' h e2 e) e3
  refine ⟨⟨b1, b2, b3, b4, b5, b6⟩, ?_, ?_, ?_, ?_, ?_⟩
  · intro i j hi hij hj
    rw [t1 i hi (by omega), t1 j (by omega) hj]; exact o1 i j hi (by omega) (by omega)
  · intro i j hi hij hj
    rw [t2 i hi (by omega), t2 j (by omega) hj]; exact o2 _ _ (by omega) (by omega) (by omega)
  · intro i j hi hij hj
    rw [t3 i hi (by omega), t3 j (by omega) hj]; exact o1 _ _ (by omega) (by omega) (by omega)
  · intro i j hi hij hj
    rw [t4 i hi (by omega), t4 j (by omega) hj]; exact o2 _ _ (by omega) (by omega) (by omega)
  · intro i j hi hic hj hjb
    by_cases c1 : i < s
    · rw [t1 i hi c1]
      by_cases c2 : j < mid + m - s
      · rw [t3 j hj c2]; exact o1 _ _ hi (by omega) (by omega)
      · rw [t4 j (by omega) hjb]; exact x2 i j hi c1 (by omega) hjb
    · rw [t2 i (by omega) hic]
      by_cases c2 : j < mid + m - s
      · rw [t3 j hj c2]; exact x1 _ _ (by omega) (by omega) (by omega) (by omega)
      · rw [t4 j (by omega) hjb]; exact o2 _ _ (by omega) (by omega) hjb
theorem sym_yes (h : SWO lt) (d : Array α) (a m b mid lo hi s r c : Nat) (hs1 : SortedIn lt a m d) (hs2 : SortedIn lt m b d) (hI : SymInv lt d (mid + m - 1) lo hi s r) (hc1 : s ≤ c) (hc2 : c < r) (hlo : a ≤ lo) (hhi : hi ≤ m) (hmid : hi ≤ mid) (hb : mid + m - 1 - lo < b) (hl : lt d[mid + m - 1 - c]! d[c]! = true) : SymInv lt d (mid + m - 1) lo hi s c := by
  obtain ⟨i1, i2, i3, i4, i5⟩ := hI
  refine ⟨i1, hc1, by omega, i4, fun x h1 h2 => ?_⟩
  rcases Nat.eq_or_lt_of_le h1 with rfl | h3
  · exact hl
  · cases e : lt d[mid + m - 1 - x]! d[x]! with
    | true => rfl
    | false =>
      have q1 : lt d[x]! d[c]! = false := hs1 c x (by omega) h3 (by omega)
      have q2 : lt d[mid + m - 1 - c]! d[mid + m - 1 - x]! = false := hs2 _ _ (by omega) (by omega) (by omega)
      rw [h.ntrans _ _ _ (h.ntrans _ _ _ q2 e) q1] at hl
      cases hl
theorem sym_no (h : SWO lt) (d : Array α) (a m b mid lo hi s r c : Nat) (hs1 : SortedIn lt a m d) (hs2 : SortedIn lt m b d) (hI : SymInv lt d (mid + m - 1) lo hi s r) (hc1 : s ≤ c) (hc2 : c < r) (hlo : a ≤ lo) (hhi : hi ≤ m) (hmid : hi ≤ mid) (hb : mid + m - 1 - lo < b) (hl : lt d[mid + m - 1 - c]! d[c]! = false) : SymInv lt d (mid + m - 1) lo hi (c + 1) r := by
  obtain ⟨i1, i2, i3, i4, i5⟩ := hI
  refine ⟨by omega, by omega, i3, fun x h1 h2 => ?_, i5⟩
  rcases Nat.eq_or_lt_of_le (show x ≤ c by omega) with rfl | h3
  · exact hl
  · have q1 : lt d[c]! d[x]! = false := hs1 x c (by omega) h3 (by omega)
    have q2 : lt d[mid + m - 1 - x]! d[mid + m - 1 - c]! = false := hs2 _ _ (by omega) (by omega) (by omega)
    exact h.ntrans _ _ _ (h.ntrans _ _ _ q2 hl) q1
/-! ### one row carried to its place -/
/-- A row carried right by t places. -/
def carR (d : Array α) (a : Nat) : Nat → Array α
  | 0 => d
  | t + 1 => swp (carR d a t) (a + t) (a + t + 1)
theorem size_carR (d : Array α) (a : Nat) : ∀ t, (carR d a t).size = d.size
  | 0 => rfl
  | t + 1 => by rw [carR, size_swp, size_carR d a t]
theorem carR_perm (d : Array α) (a b : Nat) (hb : b ≤ d.size) : ∀ t, a + t < b → PermIn a b d (carR d a t)
  | 0, _ => permIn_refl d a b
  | t + 1, h => permIn_trans _ _ _ _ _ (carR_perm d a b hb t (by omega)) (swp_permIn _ a b (a + t) (a + t + 1) (by omega) (by omega) (by omega) (by omega) (by rw [size_carR]; exact hb))
theorem carR_get (d : Array α) (a : Nat) : ∀ t, a + t < d.size → ∀ x, (carR d a t)[x]! = if a ≤ x ∧ x < a + t then d[x + 1]! else if x = a + t then d[a]! else d[x]!
  | 0, _, x => by
    rw [if_neg (by omega)]
    by_cases h : x = a + 0
    · rw [if_pos h, h]; rfl
    · rw [if_neg h]; rfl
  | t + 1, h, x => by
    have ih := carR_get d a t (by omega)
    rw [carR, swp_get _ (by rw [size_carR]; omega) (by rw [size_carR]; omega), ih, ih, ih]
    by_cases h1 : x = a + t + 1
    · subst h1
      rw [if_pos rfl, if_neg (by omega), if_pos rfl, if_neg (by omega), if_pos (by omega)]
    · rw [if_neg h1]
      by_cases h2 : x = a + t
      · subst h2
        rw [if_pos rfl, if_neg (by omega), if_neg (by omega), if_pos (by omega)]
      · rw [if_neg h2]
        by_cases h3 : a ≤ x ∧ x < a + t
        · rw [if_pos h3, if_pos (by omega)]
        · rw [if_neg h3, if_neg h2, if_neg (by omega), if_neg (by omega)]
/-- A row carried left by t places. -/
def carL (d : Array α) (m : Nat) : Nat → Array α
  | 0 => d
  | t + 1 => swp (carL d m t) (m - t) (m - t - 1)
theorem size_carL (d : Array α) (m : Nat) : ∀ t, (carL d m t).size = d.size
  | 0 => rfl
  | t + 1 => by rw [carL, size_swp, size_carL d m t]
theorem carL_perm (d : Array α) (a m : Nat) (hb : m + 1 ≤ d.size) : ∀ t, a + t ≤ m → PermIn a (m + 1) d (carL d m t)
  | 0, _ => permIn_refl d a (m + 1)
  | t + 1, h => permIn_trans _ _ _ _ _ (carL_perm d a m hb t (by omega)) (swp_permIn _ a (m + 1) (m - t) (m - t - 1) (by omega) (by omega) (by omega) (by omega) (by rw [size_carL]; exact hb))
theorem carL_get (d : Array α) (m : Nat) (hm : m < d.size) : ∀ t, t ≤ m → ∀ x, (carL d m t)[x]! = if m - t < x ∧ x ≤ m then d[x - 1]! else if x = m - t then d[m]! else d[x]!
  | 0, _, x => by
    rw [if_neg (by omega)]
    by_cases h : x = m - 0
    · rw [if_pos h, h]; rfl
    · rw [if_neg h]; rfl
  | t + 1, h, x => by
    have ih := carL_get d m hm t (by omega)
    rw [carL, swp_get _ (by rw [size_carL]; omega) (by rw [size_carL]; omega), ih, ih, ih]
    by_cases h1 : x = m - t - 1
    · subst h1
      rw [if_pos rfl, if_neg (by omega), if_pos rfl, if_neg (by omega), if_pos (by omega)]
    · rw [if_neg h1]
      by_cases h2 : x = m - t
      · subst h2
        rw [if_pos rfl, if_neg (by omega), if_neg (by omega), if_pos (by omega)]
      · rw [if_neg h2]
        by_cases h3 : m - t < x ∧ x ≤ m
        · rw [if_pos h3, if_pos (by omega)]
        · rw [if_neg h3, if_neg h2, if_neg (by omega), if_neg (by omega)]
theorem one_left (h : SWO lt) (d : Array α) (a b i : Nat) (hb : b ≤ d.size) (hs : SortedIn lt (a + 1) b d) (h1 : ∀ c, a + 1 ≤ c → c < i → lt d[c]! d[a]! = true) (h2 : ∀ c, i ≤ c → c < b → lt d[c]! d[a]! = false) (hi : a + 1 ≤ i) (hib : i ≤ b) : SortedIn lt a b (carR d a (i - 1 - a)) := by
  have g := carR_get d a (i - 1 - a) (by omega)
  intro x y hx hxy hy
  rw [g, g]
  by_cases c1 : x < i - 1
  · rw [if_pos (show a ≤ x ∧ x < a + (i - 1 - a) by omega)]
    by_cases c2 : y < i - 1
    · rw [if_pos (by omega)]; exact hs _ _ (by omega) (by omega) (by omega)
    · rw [if_neg (by omega)]
      by_cases c3 : y = i - 1
      · rw [if_pos (by omega)]; exact SWO.asymmA h (h1 _ (by omega) (by omega))
      · rw [if_neg (by omega)]; exact hs _ _ (by omega) (by omega) (by omega)
  · rw [if_neg (show ¬ (a ≤ y ∧ y < a + (i - 1 - a)) by omega), if_neg (show ¬ (y = a + (i - 1 - a)) by omega), if_neg (show ¬ (a ≤ x ∧ x < a + (i - 1 - a)) by omega)]
    by_cases c3 : x = i - 1
    · rw [if_pos (by omega)]; exact h2 _ (by omega) (by omega)
    · rw [if_neg (by omega)]; exact hs _ _ (by omega) (by omega) (by omega)
theorem one_right (h : SWO lt) (d : Array α) (a m i : Nat) (hm : m < d.size) (hs : SortedIn lt a m d) (h1 : ∀ c, a ≤ c → c < i → lt d[m]! d[c]! = false) (h2 : ∀ c, i ≤ c → c < m → lt d[m]! d[c]! = true) (hi : a ≤ i) (him : i ≤ m) : SortedIn lt a (m + 1) (carL d m (m - i)) := by
  have g := carL_get d m hm (m - i) (by omega)
  intro x y hx hxy hy
  rw [g, g]
  by_cases c1 : x < i
  · rw [if_neg (show ¬ (m - (m - i) < x ∧ x ≤ m) by omega), if_neg (show ¬ (x = m - (m - i)) by omega)]
    by_cases c2 : y < i
    · rw [if_neg (by omega), if_neg (by omega)]; exact hs _ _ (by omega) (by omega) (by omega)
    · by_cases c3 : y = i
      · rw [if_neg (by omega), if_pos (by omega)]; exact h1 _ (by omega) (by omega)
      · rw [if_pos (by omega)]; exact hs _ _ (by omega) (by omega) (by omega)
  · rw [if_pos (show m - (m - i) < y ∧ y ≤ m by omega)]
    by_cases c3 : x = i
    · rw [if_neg (by omega), if_pos (by omega)]; exact SWO.asymmA h (h2 _ (by omega) (by omega))
    · rw [if_pos (by omega)]; exact hs _ _ (by omega) (by omega) (by omega)
/-! ### runs of equal size -/
/-- Each run of s rows is in order (s: 20, 40, 80, 160, 320). -/
def Runs (lt : α → α → Bool) (s n : Nat) (d : Array α) : Prop := ∀ i j, i < j → j < n → i / s = j / s → lt d[j]! d[i]! = false
/-- On the way: runs of 2 s up to a, of s from there. -/
def Mid (lt : α → α → Bool) (s n a : Nat) (d : Array α) : Prop := (∀ i j, i < j → j < n → j < a → i / (2 * s) = j / (2 * s) → lt d[j]! d[i]! = false) ∧ ∀ i j, a ≤ i → i < j → j < n → i / s = j / s → lt d[j]! d[i]! = false
def Size4 (s : Nat) : Prop := s = 20 ∨ s = 40 ∨ s = 80 ∨ s = 160
theorem mid_start (s n : Nat) (d : Array α) (h : Runs lt s n d) : Mid lt s n 0 d := ⟨fun i j _ _ h3 _ => absurd h3 (by omega), fun i j _ h2 h3 h4 => h i j h2 h3 h4⟩
theorem mid_runs (s n a u : Nat) (d : Array α) (hs : Size4 s) (ha : a = u * (2 * s)) (h : Mid lt s n a d) : (∀ b, b ≤ n → b ≤ a + s → SortedIn lt a b d) ∧ ∀ b, b ≤ n → b ≤ a + 2 * s → SortedIn lt (a + s) b d := by
  refine ⟨fun b h1 h2 i j h3 h4 h5 => h.2 i j h3 h4 (by omega) ?_, fun b h1 h2 i j h3 h4 h5 => h.2 i j (by omega) h4 (by omega) ?_⟩
  · rcases hs with rfl | rfl | rfl | rfl <;> omega
  · rcases hs with rfl | rfl | rfl | rfl <;> omega
theorem mid_step (s n a b u : Nat) (d d' : Array α) (hs : Size4 s) (ha : a = u * (2 * s)) (hb : b = a + 2 * s) (hbn : b ≤ n) (h : Mid lt s n a d) (hp : PermIn a b d d') (ho : SortedIn lt a b d') : Mid lt s n b d' := by
  refine ⟨fun i j h1 h2 h3 h4 => ?_, fun i j h1 h2 h3 h4 => ?_⟩
  · by_cases c : a ≤ i
    · exact ho i j c h1 h3
    · have hj : j < a := by rcases hs with rfl | rfl | rfl | rfl <;> omega
      rw [hp.2.1 i (by omega), hp.2.1 j (by omega)]
      exact h.1 i j h1 h2 hj h4
  · rw [hp.2.1 i (by omega), hp.2.1 j (by omega)]
    exact h.2 i j (by omega) h2 h3 h4
theorem mid_last (s n a u : Nat) (d d' : Array α) (hs : Size4 s) (ha : a = u * (2 * s)) (hn : n < a + 2 * s) (h : Mid lt s n a d) (hp : PermIn a n d d') (ho : SortedIn lt a n d') : Runs lt (2 * s) n d' := by
  intro i j h1 h2 h4
  by_cases c : a ≤ i
  · exact ho i j c h1 h2
  · have hj : j < a := by rcases hs with rfl | rfl | rfl | rfl <;> omega
    rw [hp.2.1 i (by omega), hp.2.1 j (by omega)]
    exact h.1 i j h1 h2 hj h4
theorem mid_short (s n a u : Nat) (d : Array α) (hs : Size4 s) (ha : a = u * (2 * s)) (hn : n ≤ a + s) (h : Mid lt s n a d) : Runs lt (2 * s) n d := by
  intro i j h1 h2 h4
  by_cases c : a ≤ i
  · exact h.2 i j c h1 h2 (by rcases hs with rfl | rfl | rfl | rfl <;> omega)
  · exact h.1 i j h1 h2 (by rcases hs with rfl | rfl | rfl | rfl <;> omega) h4
theorem runs_all (s n : Nat) (d : Array α) (hn : n ≤ s) (h : Runs lt s n d) : SortedIn lt 0 n d := fun i j _ h2 h3 => h i j h2 h3 (by rw [Nat.div_eq_of_lt (by omega), Nat.div_eq_of_lt (by omega)])
/-- The first runs, of 20. -/
theorem first_step (n a b u : Nat) (d d' : Array α) (ha : a = u * 20) (hbn : b ≤ n) (h : ∀ i j, i < j → j < a → i / 20 = j / 20 → lt d[j]! d[i]! = false) (hp : PermIn a b d d') (ho : SortedIn lt a b d') : ∀ i j, i < j → j < b → i / 20 = j / 20 → lt d'[j]! d'[i]! = false := by
  intro i j h1 h2 h3
  by_cases c : a ≤ i
  · exact ho i j c h1 h2
  · rw [hp.2.1 i (by omega), hp.2.1 j (by omega)]
    exact h i j h1 (by omega) h3
end Go.SymSort
