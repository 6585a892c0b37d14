/- Plain: SlotsHold answers true. -/
import Derived.Test.YtfijhbfdkcajjaaGreatDoorHoldF
namespace Go.Proofs.YtfijhbfdkcajjaaGreatDoor.Pr
open Go.RowKit Go.Proofs.YtfijhbfdkcajjaaGreatDoorW.PrintWords Go.Proofs.YtfijhbfdkcajjaaGreatDoorW.PrintLast Go.Proofs.YtfijhbfdkcajjaaGreatDoorW.PrintMore
set_option linter.unusedVariables false
set_option linter.unusedSimpArgs false
theorem rd_is (l : List S41) (i : Nat) (h : i < l.length) : rd_T41 l (i : Int) = l[i] := by simp [rd_T41, h]
theorem w64_succ (i : Nat) (h : i ≤ 1000000) : wrap64 ((i : Int) + 1) = ((i + 1 : Nat) : Int) := by rw [w64 (by omega) (by omega)]; push_cast; rfl
theorem pow_small (n : Nat) (h : n ≤ 10) : 1 ≤ 2 ^ n ∧ 2 ^ n ≤ 1024 := by
  have a1 : (1 : Nat) ≤ 2 ^ n := Nat.one_le_two_pow
  have a2 : (2 : Nat) ^ n ≤ 2 ^ 10 := Nat.pow_le_pow_right (by omega) h
  have a3 : (2 : Nat) ^ 10 = 1024 := by decide
  omega
def longA (x : S41) : Bool := decide (200 < x.f0.size) || decide (200 < x.f2.size)
theorem long_l (l : List S41) (hl : l.length ≤ 1000) : ∀ (d i k : Nat), i + d = l.length → d + 1 ≤ k → paymasterlaw12_Long.l0 k l (i : Int) = some ((l.drop i).any longA)
  | 0, i, k, hi, hk => by
    obtain ⟨k, rfl⟩ : ∃ q, k = q + 1 := ⟨k - 1, by omega⟩
    rw [paymasterlaw12_Long.l0, if_neg (by omega), List.drop_eq_nil_of_le (by omega)]; rfl
  | d + 1, i, k, hi, hk => by
    obtain ⟨k, rfl⟩ : ∃ q, k = q + 1 := ⟨k - 1, by omega⟩
    have hlt : i < l.length := by omega
    rw [paymasterlaw12_Long.l0, if_pos (by omega), if_pos (by omega), rd_is l i hlt, List.drop_eq_getElem_cons hlt, List.any_cons]
    by_cases c1 : ((l[i].f0).size : Int) > 200
    · rw [if_pos c1, show longA l[i] = true from by unfold longA; simp; omega]; rfl
    · by_cases c2 : ((l[i].f2).size : Int) > 200
      · rw [if_neg c1, if_pos c2, show longA l[i] = true from by unfold longA; simp; omega]; rfl
      · rw [if_neg c1, if_neg c2, show longA l[i] = false from by unfold longA; simp; omega, w64_succ i (by omega), long_l l hl d (i + 1) k (by omega) (by omega), Bool.false_or]
def padS (seed : ByteArray) (n : Nat) : S55 := ⟨true, ⟨#[]⟩, Sh.padSaltS seed n, ⟨0, 0⟩⟩
def leafS (x : S41) : S55 := ⟨false, x.f0, x.f2, x.f1⟩
def slotAt (seed : ByteArray) (l : List S41) (n : Nat) : S55 := match l.find? (isSlot (n : Int)) with
  | some x => leafS x
  | none => padS seed n
theorem shl_pow : ∀ n : Fin 11, shl .i64 1 ((n.val : Nat) : Int) = ((2 ^ n.val : Nat) : Int) := by decide
theorem set_fill {α : Type} (f : Nat → α) (z : α) (M i : Nat) (h : i < M) : ((List.range i).map f ++ List.replicate (M - i) z).set i (f i) = (List.range (i + 1)).map f ++ List.replicate (M - (i + 1)) z := by
  have hl : ((List.range i).map f).length = i := by simp
  rw [List.set_append_right _ _ (by omega), hl, Nat.sub_self, show M - i = (M - (i + 1)) + 1 by omega, List.replicate_succ, List.set_cons_zero, List.range_succ, List.map_append, List.append_assoc]
  rfl
theorem pads_l0 (seed : ByteArray) (hs : seed.size ≤ 1000000) (l : List S41) (M : Nat) (hM : M ≤ 1024) (m : Nat) (d : Nat) : ∀ i, i + d = M →
    slots_Leaves.l0 (m + d + 1) seed l ((List.range i).map (padS seed) ++ List.replicate (M - i) z55) (M : Int) (i : Int) = slots_Leaves.l1 m ((List.range M).map (padS seed)) l (l.length : Int) 0 := by
  induction d with
  | zero =>
    intro i hi
    obtain rfl : i = M := by omega
    rw [slots_Leaves.l0, if_neg (by omega), Nat.sub_self, List.replicate_zero, List.append_nil]
  | succ d ih =>
    intro i hi
    have hlt : i < M := by omega
    have e1 : IntKind.u64.wrap (i : Int) = (i : Int) := IntWalk.u64_in _ (by omega)
    have e2 : wrap64 ((i : Int) + 1) = ((i + 1 : Nat) : Int) := w64_succ i (by omega)
    have hl : (((List.range i).map (padS seed) ++ List.replicate (M - i) z55).length : Int) = (M : Int) := by
      rw [List.length_append, List.length_map, List.length_range, List.length_replicate]; omega
    rw [show m + (d + 1) + 1 = (m + d + 1) + 1 by omega, slots_Leaves.l0, if_pos (by omega), e1]
    unfold tag_Pad.f
    rw [if_pos ⟨by omega, by omega, by omega⟩, Option.bind_some, if_pos (by omega), hl, if_pos (by omega), e2, Int.toNat_natCast, ← ih (i + 1) (by omega), ← set_fill (padS seed) z55 M i hlt]
    rfl
theorem slot_set (seed : ByteArray) (l : List S41) (M j : Nat) (hj : j < l.length) (h0 : 0 ≤ (l[j]).f3) (hM : (l[j]).f3 < (M : Int)) (hu : ∀ y, y ∈ l.take j → y.f3 ≠ (l[j]).f3) :
    ((List.range M).map (slotAt seed (l.take j))).set ((l[j]).f3).toNat (leafS l[j]) = (List.range M).map (slotAt seed (l.take (j + 1))) := by
  apply List.ext_getElem
  · simp
  · intro n h1 h2
    have hn : n < M := by simpa using h2
    rw [List.getElem_set, List.getElem_map, List.getElem_map, List.getElem_range]
    unfold slotAt
    rw [List.take_succ_eq_append_getElem hj, List.find?_append]
    by_cases c : ((l[j]).f3).toNat = n
    · rw [if_pos c]
      have hs : isSlot (n : Int) l[j] = true := by unfold isSlot; simp; omega
      have hnone : (l.take j).find? (isSlot (n : Int)) = none := by
        rw [List.find?_eq_none]
        intro y hy
        have := hu y hy
        unfold isSlot
        simp
        omega
      rw [hnone, Option.none_or, List.find?_cons_of_pos hs]
    · rw [if_neg c]
      have hs : ¬ (isSlot (n : Int) l[j] = true) := by unfold isSlot; simp; omega
      rw [List.find?_cons_of_neg hs, List.find?_nil, Option.or_none]
theorem leaf_l1 (seed : ByteArray) (l : List S41) (M : Nat) (hM : M ≤ 1024) (hl : l.length ≤ 1000) (h0 : ∀ x, x ∈ l → 0 ≤ x.f3) (hm : ∀ j (hj : j < l.length), (l[j]).f3 < (M : Int) ∧ ∀ y, y ∈ l.take j → y.f3 ≠ (l[j]).f3) (m d : Nat) : ∀ j, j + d = l.length →
    slots_Leaves.l1 (m + d + 1) ((List.range M).map (slotAt seed (l.take j))) l (l.length : Int) (j : Int) = some ((List.range M).map (slotAt seed l), 0) := by
  induction d with
  | zero =>
    intro j hj
    rw [slots_Leaves.l1, if_neg (by omega), List.take_of_length_le (by omega)]
  | succ d ih =>
    intro j hj
    have hlt : j < l.length := by omega
    obtain ⟨h1, h2⟩ := hm j hlt
    have h3 := h0 _ (List.getElem_mem hlt)
    have hL : (((List.range M).map (slotAt seed (l.take j))).length : Int) = (M : Int) := by simp
    rw [show m + (d + 1) + 1 = (m + d + 1) + 1 by omega, slots_Leaves.l1, if_pos (by omega), if_pos (by omega), if_pos (by omega), rd_is l j hlt, slots_Leaf.f, Option.bind_some, if_pos h3, hL, if_pos h1, w64_succ j (by omega), ← ih (j + 1) (by omega), ← slot_set seed l M j hlt h3 h1 h2]
    rfl
theorem may_all (M : Int) (l : List S41) : ∀ (d i : Nat), mayFrom M l d i = true → ∀ j, i ≤ j → j < i + d → okAt M l j = true
  | 0, i, h, j, h1, h2 => by omega
  | d + 1, i, h, j, h1, h2 => by
    rw [mayFrom, Bool.and_eq_true] at h
    rcases Nat.eq_or_lt_of_le h1 with rfl | h3
    · exact h.1
    · exact may_all M l d (i + 1) h.2 j h3 (by omega)
theorem ok_slot (M : Int) (l : List S41) (j : Nat) (hj : j < l.length) (h : okAt M l j = true) : (l[j]).f3 < M ∧ ∀ y, y ∈ l.take j → y.f3 ≠ (l[j]).f3 := by
  unfold okAt at h
  rw [List.getElem?_eq_getElem hj] at h
  simp only [Bool.and_eq_true, Bool.not_eq_true', decide_eq_false_iff_not, List.any_eq_false, decide_eq_true_eq] at h
  exact ⟨by omega, h.2.2.2.2⟩
theorem slots_is (seed : ByteArray) (hs : seed.size ≤ 64) (n : Nat) (hn : n ≤ 10) (l : List S41) (hl : l.length ≤ 1000) (h0 : ∀ x, x ∈ l → 0 ≤ x.f3) (hm : mayFrom ((2 ^ n : Nat) : Int) l l.length 0 = true) (hmay : slots_May.f l (n : Int) = some true) (k : Nat) (hk : 3000 ≤ k) :
    slots_Leaves.f k seed (n : Int) l = some ((List.range (2 ^ n)).map (slotAt seed l), 0) := by
  have hp := pow_small n hn
  have hsh := shl_pow ⟨n, by omega⟩
  have hsh : shl .i64 1 (n : Int) = ((2 ^ n : Nat) : Int) := hsh
  have hhi : slots_high.f (n : Int) = some true := by unfold slots_high.f; rw [if_pos (by omega)]; congr 1; exact decide_eq_true (by omega)
  unfold slots_Leaves.f
  have hall := may_all _ _ _ _ hm
  generalize 2 ^ n = M at hp hsh hm hall ⊢
  rw [hhi, Option.bind_some, if_pos rfl, if_neg (by omega), hmay, Option.bind_some, if_pos rfl, if_pos (by omega), hsh, if_pos (by omega), Int.toNat_natCast, if_pos (by omega), Option.bind_some, List.length_replicate]
  obtain ⟨m, rfl⟩ : ∃ m, k = (m + l.length + 1) + M + 1 := ⟨k - (l.length + 1 + M + 1), by omega⟩
  have h1 := pads_l0 seed (by omega) l M hp.2 (m + l.length + 1) M 0 (by omega)
  rw [List.range_zero, List.map_nil, List.nil_append, Nat.sub_zero] at h1
  refine h1.trans ?_
  have h2 := leaf_l1 seed l M hp.2 hl h0 (fun j hj => ok_slot _ _ j hj (hall j (by omega) (by omega))) m l.length 0 (by omega)
  rw [List.take_zero] at h2
  exact h2
theorem rd36_is (l : List S55) (i : Nat) (h : i < l.length) : rd_T55 l (i : Int) = l[i] := by simp [rd_T55, h]
/-! ### sums of 128-bit numbers -/
def W3.val (x : W3) : Nat := x.h * 340282366920938463463374607431768211456 + x.hi * 18446744073709551616 + x.lo
def u128N (a : S39) : Nat := a.f0.toNat * 18446744073709551616 + a.f1.toNat
theorem andX_val (x y : W3) (hx : x.ok) (hy : y.ok) (h : x.val + y.val < 6277101735386680763835789423207666416102355444464034512896) : (andX x y).val = x.val + y.val := by
  obtain ⟨a, b, c⟩ := x
  obtain ⟨d, e, f⟩ := y
  obtain ⟨h1, h2, h3⟩ := hx
  obtain ⟨h4, h5, h6⟩ := hy
  simp only [W3.val, andX] at h1 h2 h3 h4 h5 h6 h ⊢
  generalize hq1 : (c + f + 0) / 18446744073709551616 = q1
  generalize hq2 : (b + e + q1) / 18446744073709551616 = q2
  have ho : (a + d + q2) / 18446744073709551616 = 0 := by omega
  rw [if_pos ho]
  omega
theorem val_inj (x y : W3) (hx : x.ok) (hy : y.ok) (h : x.val = y.val) : x.h = y.h ∧ x.hi = y.hi ∧ x.lo = y.lo := by
  obtain ⟨a, b, c⟩ := x
  obtain ⟨d, e, f⟩ := y
  obtain ⟨h1, h2, h3⟩ := hx
  obtain ⟨h4, h5, h6⟩ := hy
  simp only [W3.val] at h1 h2 h3 h4 h5 h6 h ⊢
  omega
theorem sumX_val (l : List S39) (hl : l.length ≤ 100000) (ho : ∀ a, a ∈ l → OkU a) : ∀ n, n ≤ l.length → (sumX (l.take n)).val = ((l.take n).map u128N).sum ∧ ((l.take n).map u128N).sum ≤ n * 340282366920938463463374607431768211456
  | 0, _ => by simp [sumX, W3.val]
  | n + 1, hn => by
    obtain ⟨ih1, ih2⟩ := sumX_val l hl ho n (by omega)
    have hlt : n < l.length := by omega
    obtain ⟨⟨a1, a2⟩, a3, a4⟩ := ho _ (List.getElem_mem hlt)
    rw [List.take_succ_eq_append_getElem hlt, sumX_snoc, List.map_append, List.sum_append]
    have hy : (⟨0, (l[n]).f0.toNat, (l[n]).f1.toNat⟩ : W3).val = u128N l[n] := by simp [W3.val, u128N]
    have hb : u128N l[n] < 340282366920938463463374607431768211456 := by unfold u128N; omega
    have hs : ([l[n]].map u128N).sum = u128N l[n] := by simp
    rw [hs]
    refine ⟨?_, by omega⟩
    rw [andX_val _ _ (sumX_ok _) ⟨by simp, by show (l[n]).f0.toNat < _; omega, by show (l[n]).f1.toNat < _; omega⟩ (by rw [hy, ih1]; omega), hy, ih1]
theorem sums_eq (l m : List S39) (hl : l.length ≤ 100000) (hm : m.length ≤ 100000) (h1 : ∀ a, a ∈ l → OkU a) (h2 : ∀ a, a ∈ m → OkU a) (h : (l.map u128N).sum = (m.map u128N).sum) : wide_Balanced.f l m = some true := by
  have e1 := (sumX_val l hl h1 l.length (Nat.le_refl _)).1
  have e2 := (sumX_val m hm h2 m.length (Nat.le_refl _)).1
  rw [List.take_length] at e1 e2
  unfold wide_Balanced.f
  rw [if_pos ⟨⟨hl, hm⟩, h1, h2⟩]
  congr 1
  exact decide_eq_true (val_inj _ _ (sumX_ok _) (sumX_ok _) (by rw [e1, e2, h]))
theorem sum_set {α : Type} (g : α → Nat) (b : α) : ∀ (L : List α) (i : Nat) (h : i < L.length), ((L.set i b).map g).sum + g L[i] = (L.map g).sum + g b
  | [], i, h => absurd h (by simp)
  | x :: L, 0, h => by simp; omega
  | x :: L, i + 1, h => by
    have := sum_set g b L i (by simpa using h)
    simp only [List.set_cons_succ, List.map_cons, List.sum_cons, List.getElem_cons_succ]
    omega
theorem slot_sum (g : S55 → Nat) (c : Nat) (seed : ByteArray) (hg : ∀ n, g (padS seed n) = c) (l : List S41) (M : Nat) (h0 : ∀ x, x ∈ l → 0 ≤ x.f3) (hm : ∀ j (hj : j < l.length), (l[j]).f3 < (M : Int) ∧ ∀ y, y ∈ l.take j → y.f3 ≠ (l[j]).f3) :
    ∀ j, j ≤ l.length → (((List.range M).map (slotAt seed (l.take j))).map g).sum + j * c = M * c + ((l.take j).map (fun x => g (leafS x))).sum
  | 0, _ => by
    have : ∀ M, (((List.range M).map (slotAt seed (l.take 0))).map g).sum = M * c := by
      intro M
      induction M with
      | zero => simp
      | succ M ih =>
        rw [List.range_succ, List.map_append, List.map_append, List.sum_append, ih]
        have : slotAt seed (l.take 0) M = padS seed M := rfl
        simp only [List.map_cons, List.map_nil, List.sum_cons, List.sum_nil, this, hg]
        rw [Nat.add_mul]; omega
    rw [this M]; simp
  | j + 1, hj => by
    have ih := slot_sum g c seed hg l M h0 hm j (by omega)
    have hlt : j < l.length := by omega
    obtain ⟨h1, h2⟩ := hm j hlt
    have h3 := h0 _ (List.getElem_mem hlt)
    have hL : ((l[j]).f3).toNat < ((List.range M).map (slotAt seed (l.take j))).length := by simp; omega
    have hset := sum_set g (leafS l[j]) _ _ hL
    have hget : ((List.range M).map (slotAt seed (l.take j)))[((l[j]).f3).toNat] = padS seed ((l[j]).f3).toNat := by
      rw [List.getElem_map, List.getElem_range]
      unfold slotAt
      have hnone : (l.take j).find? (isSlot (((l[j]).f3.toNat : Nat) : Int)) = none := by
        rw [List.find?_eq_none]
        intro y hy
        have := h2 y hy
        unfold isSlot
        simp
        omega
      rw [hnone]
    rw [hget, hg, slot_set seed l M j hlt h3 h1 h2] at hset
    rw [List.take_succ_eq_append_getElem hlt, List.map_append, List.sum_append]
    rw [List.take_succ_eq_append_getElem hlt] at hset
    have hs : ([l[j]].map (fun x => g (leafS x))).sum = g (leafS l[j]) := by simp
    rw [hs, Nat.add_mul]
    omega
def padN (x : S55) : Nat := if x.f0 = true then 1 else 0
theorem find_mem (l : List S41) (a : Int) (x : S41) (h : l.find? (isSlot a) = some x) : x ∈ l := List.mem_of_find?_eq_some h
theorem byteSelf (x : ByteArray) : (x.toList == x.toList) = true := by simp
theorem hold_round (seed : ByteArray) (hs : seed.size ≤ 64) (l : List S41) (hl : l.length ≤ 1000) (hz : ∀ x, x ∈ l → x.f0.size ≤ 1000 ∧ mayIdB x.f0 = true ∧ x.f2.size ≤ 32) (L : List S55) (M : Nat) (hM : M ≤ 1024) (hL : L = (List.range M).map (slotAt seed l)) (H : List S39) (p : Nat) (hp : p ≤ 100000) (hH : H.length ≤ 100000) (i : Nat) (hi : i < M) (k : Nat) :
    paymasterlaw12_SlotsHold.l0 (k + 2) seed l L H (p : Int) (i : Int) = paymasterlaw12_SlotsHold.l0 k seed l L (H ++ [(slotAt seed l i).f3]) ((p + padN (slotAt seed l i) : Nat) : Int) ((i + 1 : Nat) : Int) := by
  have hlen : L.length = M := by rw [hL]; simp
  have e1 : IntKind.u64.wrap (i : Int) = (i : Int) := IntWalk.u64_in _ (by omega)
  have hx : rd_T55 L (i : Int) = slotAt seed l i := by rw [rd36_is L i (by omega)]; simp [hL]
  have hat : slots_At.f l (i : Int) = some (foundT (l.find? (isSlot (i : Int)))) := by unfold slots_At.f; rw [if_pos (by omega)]
  have hj : paymasterlaw12_SlotsHold.j2 (k + 1) seed l L H (p : Int) (i : Int) false = paymasterlaw12_SlotsHold.l0 k seed l L (H ++ [(slotAt seed l i).f3]) ((p + padN (slotAt seed l i) : Nat) : Int) ((i + 1 : Nat) : Int) := by
    rw [paymasterlaw12_SlotsHold.j2, if_neg (by simp), if_pos (by omega), if_pos (by omega), hx, w64_succ i (by omega)]
    by_cases c : (slotAt seed l i).f0 = true
    · rw [if_pos c, if_pos (by omega), w64_succ p (by omega), padN, if_pos c]
    · rw [if_neg c, if_pos (by omega), padN, if_neg c]; rfl
  rw [paymasterlaw12_SlotsHold.l0, if_pos (by omega), e1, hat, Option.bind_some, if_pos (by omega), hx]
  cases hf : l.find? (isSlot (i : Int)) with
  | some x =>
    have hm := find_mem l _ x hf
    obtain ⟨z1, z2, z3⟩ := hz x hm
    have hsl : slotAt seed l i = leafS x := by unfold slotAt; rw [hf]
    have hmay : tag_MayLeaf.f (leafS x).f0 (leafS x).f1 (leafS x).f2 (leafS x).f3.f0 (leafS x).f3.f1 = some true := by
      unfold tag_MayLeaf.f leafS
      rw [if_neg (show ¬ ((x.f2.size : Int) > 32) by omega), if_neg (by simp)]
      unfold tag_MayId.f
      rw [if_pos z1, z2]; rfl
    rw [hsl] at hj ⊢
    rw [hmay, Option.bind_some, if_pos rfl, if_neg (show ¬ (((leafS x).f0 == (foundT (some x)).2.2.2.2.2) = true) by simp [leafS, foundT]), if_pos (show (foundT (some x)).2.2.2.2.2 = true from rfl)]
    unfold slots_Leaf.f
    rw [Option.bind_some, if_neg (by simp [leafS, foundT]), hj]
  | none =>
    have hsl : slotAt seed l i = padS seed i := by unfold slotAt; rw [hf]
    have hmay : tag_MayLeaf.f (padS seed i).f0 (padS seed i).f1 (padS seed i).f2 (padS seed i).f3.f0 (padS seed i).f3.f1 = some true := by
      unfold tag_MayLeaf.f padS
      rw [if_neg (show ¬ (((Sh.padSaltS seed i).size : Int) > 32) by unfold Sh.padSaltS; rw [ByteArray.size_extract]; omega), if_pos rfl, if_pos (by rw [ByteArray.toList_eq])]
      simp
    rw [hsl] at hj ⊢
    rw [hmay, Option.bind_some, if_pos rfl, if_neg (show ¬ (((padS seed i).f0 == (foundT none).2.2.2.2.2) = true) by simp [padS, foundT]), if_neg (show ¬ ((foundT none).2.2.2.2.2 = true) by simp [foundT])]
    unfold tag_Pad.f
    rw [if_pos ⟨by omega, by omega, by omega⟩, Option.bind_some, Int.toNat_natCast, ← hj]
    refine congrArg (fun b => paymasterlaw12_SlotsHold.j2 (k + 1) seed l L H (p : Int) (i : Int) b) ?_
    simp [padS]
theorem hold_l0 (seed : ByteArray) (hs : seed.size ≤ 64) (l : List S41) (hl : l.length ≤ 1000) (hz : ∀ x, x ∈ l → x.f0.size ≤ 1000 ∧ mayIdB x.f0 = true ∧ x.f2.size ≤ 32) (L : List S55) (M : Nat) (hM : M ≤ 1024) (hL : L = (List.range M).map (slotAt seed l)) (m : Nat) (d : Nat) : ∀ (i : Nat) (H : List S39) (p : Nat), i + d = M → p ≤ i → H.length = i →
    paymasterlaw12_SlotsHold.l0 (m + 1 + 2 * d) seed l L H (p : Int) (i : Int) = paymasterlaw12_SlotsHold.l1 m l L (H ++ (L.drop i).map (·.f3)) [] ((p + ((L.drop i).map padN).sum : Nat) : Int) 0 := by
  have hlen : L.length = M := by rw [hL]; simp
  induction d with
  | zero =>
    intro i H p hi hp hH
    rw [Nat.mul_zero, Nat.add_zero, paymasterlaw12_SlotsHold.l0, if_neg (by omega), List.drop_eq_nil_of_le (by omega)]
    simp
  | succ d ih =>
    intro i H p hi hp hH
    have hlt : i < L.length := by omega
    have hg : L[i] = slotAt seed l i := by simp [hL]
    have hpn : padN (slotAt seed l i) ≤ 1 := by unfold padN; split <;> omega
    have h2 := ih (i + 1) (H ++ [(slotAt seed l i).f3]) (p + padN (slotAt seed l i)) (by omega) (by omega) (by simp; omega)
    rw [show m + 1 + 2 * (d + 1) = m + 1 + 2 * d + 2 by omega, hold_round seed hs l hl hz L M hM hL H p (by omega) (by omega) i (by omega), h2, List.drop_eq_getElem_cons hlt, hg]
    simp [Nat.add_assoc]
theorem owed_l1 (l : List S41) (hl : l.length ≤ 1000) (L : List S55) (H : List S39) (p : Int) (d : Nat) : ∀ (i k : Nat), i + d = l.length → d + 1 ≤ k →
    paymasterlaw12_SlotsHold.l1 k l L H ((l.take i).map (·.f1)) p (i : Int) = if wrap64 (p + (l.length : Int)) = (L.length : Int) then wide_Balanced.f H (l.map (·.f1)) else some false := by
  induction d with
  | zero =>
    intro i k hi hk
    obtain ⟨k, rfl⟩ : ∃ q, k = q + 1 := ⟨k - 1, by omega⟩
    rw [paymasterlaw12_SlotsHold.l1, if_neg (by omega), List.take_of_length_le (by omega)]
    simp
  | succ d ih =>
    intro i k hi hk
    obtain ⟨k, rfl⟩ : ∃ q, k = q + 1 := ⟨k - 1, by omega⟩
    have hlt : i < l.length := by omega
    have h2 := ih (i + 1) k (by omega) (by omega)
    rw [List.take_succ_eq_append_getElem hlt, List.map_append] at h2
    rw [paymasterlaw12_SlotsHold.l1, if_pos (by omega), if_pos (by omega), if_pos (by rw [List.length_map, List.length_take]; omega), rd_is l i hlt, w64_succ i (by omega), ← h2]
    rfl
theorem mx_nat (n : Nat) : mx ((n : Nat) : Int) 0 = (n : Int) := by unfold mx; split <;> omega
theorem may_facts (M : Int) (l : List S41) (h : mayFrom M l l.length 0 = true) : ∀ x, x ∈ l → mayIdB x.f0 = true ∧ x.f2.size ≤ 32 := by
  intro x hx
  obtain ⟨j, hj, rfl⟩ := List.getElem_of_mem hx
  have h := may_all _ _ _ _ h j (by omega) (by omega)
  unfold okAt at h
  rw [List.getElem?_eq_getElem hj] at h
  simp only [Bool.and_eq_true, Bool.not_eq_true', decide_eq_false_iff_not] at h
  exact ⟨h.1, by have := h.2.2.1; omega⟩
theorem hold_pure (a0 : ByteArray) (a1 : Int) (l : List S41) (hw : ∀ x, x ∈ l → (Lit.int .u64 x.f3).wf = true ∧ OkU x.f1) : ∃ k, paymasterlaw12_SlotsHold.f k a0 a1 l = some true := by
  obtain ⟨K, hK⟩ : ∃ K : Nat, 200000 ≤ K := ⟨200000, Nat.le_refl _⟩
  refine ⟨K + 1, ?_⟩
  unfold paymasterlaw12_SlotsHold.f paymasterlaw12_awake.f
  rw [Option.bind_some, if_pos rfl]
  have hj : paymasterlaw12_SlotsHold.j0 (K + 1) a0 a1 l true = some true := by rw [paymasterlaw12_SlotsHold.j0, if_pos rfl]
  by_cases c : (a0.size : Int) > 64
  · rw [if_pos c, hj]
  rw [if_neg c]
  unfold paymasterlaw12_Long.f
  by_cases c2 : (l.length : Int) > 200
  · rw [if_pos c2, Option.bind_some, if_pos rfl, hj]
  rw [if_neg c2]
  have hlen : l.length ≤ 200 := by omega
  have hLo := long_l l (by omega) l.length 0 (K + 1) (by omega) (by omega)
  rw [List.drop_zero, show ((0 : Nat) : Int) = 0 from rfl] at hLo
  rw [hLo, Option.bind_some]
  cases hb : l.any longA with
  | true => rw [if_pos rfl, hj]
  | false =>
    rw [if_neg (by simp)]
    have hsz : ∀ x, x ∈ l → x.f0.size ≤ 1000 := by
      intro x hx
      have := List.any_eq_false.1 hb x hx
      unfold longA at this
      simp at this
      omega
    have hw3 : ∀ x, x ∈ l → (Lit.int .u64 x.f3).wf = true := fun x hx => (hw x hx).1
    have h0 : ∀ x, x ∈ l → 0 ≤ x.f3 := fun x hx => by
      have := hw3 x hx
      simp [Lit.wf, IntKind.min, IntKind.max, IntKind.bits, IntKind.signed] at this
      omega
    by_cases c6 : a1 > 6
    · rw [decide_eq_true c6, hj]
    rw [decide_eq_false c6]
    rw [paymasterlaw12_SlotsHold.j0, if_neg (by simp)]
    have hmf : slots_May.f l a1 = some (decide (0 ≤ a1 ∧ a1 ≤ 10) && mayFrom ((2 ^ a1.toNat : Nat) : Int) l l.length 0) := by
      unfold slots_May.f
      rw [if_pos (show l.length ≤ 100000 ∧ (∀ x, x ∈ l → x.f0.size ≤ 1000) ∧ (∀ x, x ∈ l → (Lit.int .u64 x.f3).wf = true) from ⟨by omega, hsz, hw3⟩)]
    have hhi : slots_high.f a1 = some (decide (0 ≤ a1 ∧ a1 ≤ 10)) := by
      unfold slots_high.f
      by_cases c : a1 ≥ 0
      · rw [if_pos c]; congr 1; by_cases d : a1 ≤ 10 <;> simp [c, d]
      · rw [if_neg c]; congr 1; symm; exact decide_eq_false (by omega)
    by_cases cn : 0 ≤ a1
    · obtain ⟨n, rfl⟩ := Int.eq_ofNat_of_zero_le cn
      have hn : n ≤ 6 := by omega
      have hp := pow_small n (by omega)
      rw [decide_eq_true (by omega), Bool.true_and, Int.toNat_natCast] at hmf
      cases hm : mayFrom ((2 ^ n : Nat) : Int) l l.length 0 with
      | false =>
        rw [hm] at hmf
        have hLv : slots_Leaves.f K a0 (n : Int) l = some ([], 2) := by
          unfold slots_Leaves.f
          rw [hhi, decide_eq_true (by omega), Option.bind_some, if_pos rfl, if_neg c, hmf, Option.bind_some, if_neg (by simp)]
        rw [hLv, Option.bind_some, if_neg (by decide), if_pos (by rfl), hmf, Option.bind_some]; rfl
      | true =>
        rw [hm] at hmf
        have hLv := slots_is a0 (by omega) n (by omega) l (by omega) h0 hm hmf K (by omega)
        have hsh := shl_pow ⟨n, by omega⟩
        have hsh : shl .i64 1 (n : Int) = ((2 ^ n : Nat) : Int) := hsh
        have e1 : IntKind.u64.wrap (n : Int) = (n : Int) := IntWalk.u64_in _ (by omega)
        have hfa := may_facts _ l hm
        have hmm : ∀ j (hj : j < l.length), (l[j]).f3 < ((2 ^ n : Nat) : Int) ∧ ∀ y, y ∈ l.take j → y.f3 ≠ (l[j]).f3 := fun j hj => ok_slot _ _ j hj (may_all _ _ _ _ hm j (by omega) (by omega))
        rw [hLv, Option.bind_some, if_pos rfl, mx_nat, e1, if_pos (by omega), hsh]
        generalize 2 ^ n = M at hp hmm ⊢
        have hS1 := slot_sum padN 1 a0 (fun n => rfl) l M h0 hmm l.length (Nat.le_refl _)
        have hS2 := slot_sum (fun x => u128N x.f3) 0 a0 (fun n => by simp [padS, u128N]) l M h0 hmm l.length (Nat.le_refl _)
        rw [List.take_length] at hS1 hS2
        generalize hL : (List.range M).map (slotAt a0 l) = L at hS1 hS2 ⊢
        have hLl : L.length = M := by rw [← hL]; simp
        rw [if_pos (show (((L, (0 : Int)).1.length : Int)) = (M : Int) by show (L.length : Int) = M; omega)]
        obtain ⟨m, rfl⟩ : ∃ m, K = m + 1 + 2 * M := ⟨K - 1 - 2 * M, by omega⟩
        have h1 := hold_l0 a0 (by omega) l (by omega) (fun x hx => ⟨hsz x hx, hfa x hx⟩) L M (by omega) hL.symm m M 0 [] 0 (by omega) (by omega) rfl
        have h2 := owed_l1 l (by omega) L (L.map (·.f3)) (((L.map padN).sum : Nat) : Int) l.length 0 m (by omega) (by omega)
        rw [List.take_zero] at h2
        rw [List.drop_zero, List.nil_append, Nat.zero_add] at h1
        refine h1.trans (h2.trans ?_)
        have hz : (l.map (fun x => padN (leafS x))).sum = 0 := by
          have : ∀ l : List S41, (l.map (fun x => padN (leafS x))).sum = 0 := by
            intro l
            induction l with
            | nil => rfl
            | cons x l ih => rw [List.map_cons, List.sum_cons, ih]; rfl
          exact this l
        rw [hz] at hS1
        rw [if_pos (by rw [w64 (by omega) (by omega)]; omega)]
        refine sums_eq _ _ (by rw [List.length_map]; omega) (by rw [List.length_map]; omega) ?_ ?_ ?_
        · intro a ha
          obtain ⟨x, hx, rfl⟩ := List.mem_map.1 ha
          rw [← hL] at hx
          obtain ⟨i, hi, rfl⟩ := List.mem_map.1 hx
          unfold slotAt
          split
          · rename_i x hf
            exact (hw x (find_mem l _ x hf)).2
          · simp [padS, OkU]
        · intro a ha
          obtain ⟨x, hx, rfl⟩ := List.mem_map.1 ha
          exact (hw x hx).2
        · rw [List.map_map, List.map_map]
          rw [Nat.mul_zero, Nat.mul_zero, Nat.add_zero, Nat.zero_add] at hS2
          exact hS2
    · rw [decide_eq_false (by omega), Bool.false_and] at hmf
      have hLv : slots_Leaves.f K a0 a1 l = some ([], 120) := by
        unfold slots_Leaves.f
        rw [hhi, decide_eq_false (by omega), Option.bind_some, if_neg (by simp)]
      rw [hLv, Option.bind_some, if_neg (by decide), if_pos (by rfl), hmf, Option.bind_some]; rfl
end Go.Proofs.YtfijhbfdkcajjaaGreatDoor.Pr
