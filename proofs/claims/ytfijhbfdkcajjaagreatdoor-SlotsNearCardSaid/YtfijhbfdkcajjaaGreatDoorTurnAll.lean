/- Plain: what is placed; SlotsNear answers true. -/
import Derived.Test.YtfijhbfdkcajjaaGreatDoorPlaceF
import Derived.Test.YtfijhbfdkcajjaaGreatDoorFree
import Derived.Test.YtfijhbfdkcajjaaGreatDoorNearF
/- Plain: accounts and rows in another order come to the same places. -/
namespace Go.Proofs.YtfijhbfdkcajjaaGreatDoor.Pr
open Go.RowKit Go.SortKey
set_option linter.unusedVariables false
set_option linter.unusedSimpArgs false
theorem find_rev {α : Type} (p : α → Bool) (l : List α) (h : ∀ x, x ∈ l → ∀ y, y ∈ l → p x = true → p y = true → x = y) : l.reverse.find? p = l.find? p := by
  cases hf : l.find? p with
  | none =>
    rw [List.find?_eq_none] at hf ⊢
    exact fun x hx => hf x (List.mem_reverse.1 hx)
  | some x =>
    have hx := List.mem_of_find?_eq_some hf
    have hp := List.find?_some hf
    cases hg : l.reverse.find? p with
    | none =>
      rw [List.find?_eq_none] at hg
      exact absurd hp (hg x (List.mem_reverse.2 hx))
    | some y => rw [h y (List.mem_reverse.1 (List.mem_of_find?_eq_some hg)) x hx (List.find?_some hg) hp]
/-- Whether accounts may be, said of the list as a whole. -/
theorem mayFrom_iff (M : Int) (l : List S41) : mayFrom M l l.length 0 = true ↔ (∀ x, x ∈ l → (mayIdB x.f0 && (!decide (M ≤ x.f3) && !decide (32 < (x.f2.size : Int)))) = true) ∧ l.Pairwise (fun x y => x.f0 ≠ y.f0 ∧ x.f3 ≠ y.f3) := by
  have key : ∀ d i, i + d = l.length → (mayFrom M l d i = true ↔ ∀ j, i ≤ j → j < l.length → okAt M l j = true) := by
    intro d
    induction d with
    | zero => intro i hi; exact ⟨fun _ j h1 h2 => by omega, fun _ => rfl⟩
    | succ d ih =>
      intro i hi
      rw [mayFrom, Bool.and_eq_true, ih (i + 1) (by omega)]
      constructor
      · rintro ⟨h1, h2⟩ j h3 h4
        rcases Nat.eq_or_lt_of_le h3 with rfl | h5
        · exact h1
        · exact h2 j h5 h4
      · exact fun h => ⟨h i (Nat.le_refl _) (by omega), fun j h1 h2 => h j (by omega) h2⟩
  rw [key l.length 0 (by omega), List.pairwise_iff_getElem]
  have ok : ∀ j (hj : j < l.length), okAt M l j = true ↔ (mayIdB (l[j]).f0 && (!decide (M ≤ (l[j]).f3) && !decide (32 < ((l[j]).f2.size : Int)))) = true ∧ ∀ i (hi : i < j), (l[i]).f0 ≠ (l[j]).f0 ∧ (l[i]).f3 ≠ (l[j]).f3 := by
    intro j hj
    unfold okAt
    rw [List.getElem?_eq_getElem hj]
    simp only [Bool.and_eq_true, Bool.not_eq_true', List.any_eq_false, decide_eq_true_eq]
    constructor
    · rintro ⟨h1, h2, h3, h4, h5⟩
      exact ⟨⟨h1, h2, h3⟩, fun i hi => ⟨h4 _ (List.mem_take_iff_getElem.2 ⟨i, by omega, rfl⟩), h5 _ (List.mem_take_iff_getElem.2 ⟨i, by omega, rfl⟩)⟩⟩
    · rintro ⟨⟨h1, h2, h3⟩, h4⟩
      refine ⟨h1, h2, h3, fun x hx => ?_, fun x hx => ?_⟩
      · obtain ⟨i, hi, rfl⟩ := List.mem_take_iff_getElem.1 hx
        exact (h4 i (by omega)).1
      · obtain ⟨i, hi, rfl⟩ := List.mem_take_iff_getElem.1 hx
        exact (h4 i (by omega)).2
  constructor
  · intro h
    refine ⟨fun x hx => ?_, fun i j hi hj hij => ((ok j hj).1 (h j (Nat.zero_le _) hj)).2 i hij⟩
    obtain ⟨j, hj, rfl⟩ := List.getElem_of_mem hx
    exact ((ok j hj).1 (h j (Nat.zero_le _) hj)).1
  · rintro ⟨h1, h2⟩ j _ hj
    exact (ok j hj).2 ⟨h1 _ (List.getElem_mem hj), fun i hi => h2 i j (by omega) hj hi⟩
theorem may_rev (M : Int) (l : List S41) : mayFrom M l.reverse l.reverse.length 0 = mayFrom M l l.length 0 := by
  rw [Bool.eq_iff_iff, mayFrom_iff, mayFrom_iff, List.pairwise_reverse]
  refine and_congr ⟨fun h x hx => h x (List.mem_reverse.2 hx), fun h x hx => h x (List.mem_reverse.1 hx)⟩ ?_
  constructor
  · exact fun h => h.imp (fun h => ⟨fun e => h.1 e.symm, fun e => h.2 e.symm⟩)
  · exact fun h => h.imp (fun h => ⟨fun e => h.1 e.symm, fun e => h.2 e.symm⟩)
theorem rowedFrom_iff (l : List S45) : rowedFrom l l.length 0 = true ↔ (∀ x, x ∈ l → mayIdB x.f0 = true) ∧ l.Pairwise (fun x y => x.f0 ≠ y.f0) := by
  have key : ∀ d i, i + d = l.length → (rowedFrom l d i = true ↔ ∀ j, i ≤ j → j < l.length → okRow l j = true) := by
    intro d
    induction d with
    | zero => intro i hi; exact ⟨fun _ j h1 h2 => by omega, fun _ => rfl⟩
    | succ d ih =>
      intro i hi
      rw [rowedFrom, Bool.and_eq_true, ih (i + 1) (by omega)]
      constructor
      · rintro ⟨h1, h2⟩ j h3 h4
        rcases Nat.eq_or_lt_of_le h3 with rfl | h5
        · exact h1
        · exact h2 j h5 h4
      · exact fun h => ⟨h i (Nat.le_refl _) (by omega), fun j h1 h2 => h j (by omega) h2⟩
  rw [key l.length 0 (by omega), List.pairwise_iff_getElem]
  have ok : ∀ j (hj : j < l.length), okRow l j = true ↔ mayIdB (l[j]).f0 = true ∧ ∀ i (hi : i < j), (l[i]).f0 ≠ (l[j]).f0 := by
    intro j hj
    unfold okRow
    rw [List.getElem?_eq_getElem hj]
    simp only [Bool.and_eq_true, Bool.not_eq_true', List.any_eq_false, decide_eq_true_eq]
    refine and_congr Iff.rfl ⟨fun h i hi => h _ (List.mem_take_iff_getElem.2 ⟨i, by omega, rfl⟩), fun h x hx => ?_⟩
    obtain ⟨i, hi, rfl⟩ := List.mem_take_iff_getElem.1 hx
    exact h i (by omega)
  constructor
  · intro h
    refine ⟨fun x hx => ?_, fun i j hi hj hij => ((ok j hj).1 (h j (Nat.zero_le _) hj)).2 i hij⟩
    obtain ⟨j, hj, rfl⟩ := List.getElem_of_mem hx
    exact ((ok j hj).1 (h j (Nat.zero_le _) hj)).1
  · rintro ⟨h1, h2⟩ j _ hj
    exact (ok j hj).2 ⟨h1 _ (List.getElem_mem hj), fun i hi => h2 i j (by omega) hj hi⟩
theorem rowed_rev (l : List S45) : rowedFrom l.reverse l.reverse.length 0 = rowedFrom l l.length 0 := by
  rw [Bool.eq_iff_iff, rowedFrom_iff, rowedFrom_iff, List.pairwise_reverse]
  refine and_congr ⟨fun h x hx => h x (List.mem_reverse.2 hx), fun h x hx => h x (List.mem_reverse.1 hx)⟩ ?_
  exact ⟨fun h => h.imp (fun h e => h e.symm), fun h => h.imp (fun h e => h e.symm)⟩
theorem key_eq {a b : ByteArray} (h : a.toList = b.toList) : a = b := byteArray_inj (by rw [ByteArray.toList_eq, ByteArray.toList_eq] at h; exact h)
theorem insSort_rev (l : List S45) (h : rowedFrom l l.length 0 = true) : insSort rowKey l.reverse = insSort rowKey l := by
  obtain ⟨_, p1, o1⟩ := insSort_sorts rowKey l.reverse
  obtain ⟨_, p2, o2⟩ := insSort_sorts rowKey l
  exact ordered_unique rowKey _ _ (p1.trans ((List.reverse_perm l).trans p2.symm)) o1 o2 (fun x hx y hy => rowed_unlike l h x (List.mem_reverse.1 (p1.mem_iff.1 hx)) y (List.mem_reverse.1 (p1.mem_iff.1 hy)))
theorem isFree_perm {l m : List S41} (h : l.Perm m) : isFree l = isFree m := by
  funext a
  unfold isFree
  congr 1
  rw [Bool.eq_iff_iff, List.any_eq_true, List.any_eq_true]
  exact ⟨fun ⟨x, hx, e⟩ => ⟨x, h.mem_iff.1 hx, e⟩, fun ⟨x, hx, e⟩ => ⟨x, h.mem_iff.2 hx, e⟩⟩
theorem steps_perm (s : ByteArray) (h : Nat) (q : List S45) : ∀ {l m : List S41}, l.Perm m → (q.foldl (placeStep s h) l).Perm (q.foldl (placeStep s h) m) := by
  induction q with
  | nil => exact fun h => h
  | cons x q ih =>
    intro l m hp
    rw [List.foldl_cons, List.foldl_cons]
    refine ih ?_
    unfold placeStep slotOf
    rw [isFree_perm hp]
    exact hp.append_right _
abbrev NeA (x y : S41) : Prop := x.f0 ≠ y.f0
abbrev NeR (x y : S45) : Prop := x.f0 ≠ y.f0
theorem had_id (was : List S41) (x y : S45) (h : x.f0 = y.f0) : hadB was x = hadB was y := by unfold hadB; rw [h]
theorem stay_mem (was : List S41) (rows : List S45) (a : S41) (h : a ∈ stayL was rows) : ∃ r, r ∈ rows ∧ hadB was r = true ∧ a.f0 = r.f0 := by
  unfold stayL at h
  rw [List.mem_filterMap] at h
  obtain ⟨r, hr, he⟩ := h
  cases hf : was.find? (isId r.f0) with
  | none => rw [hf] at he; cases he
  | some b =>
    rw [hf] at he
    have hid := List.find?_some hf
    have he := Option.some.inj he
    refine ⟨r, hr, by unfold hadB; rw [hf]; rfl, ?_⟩
    rw [← he]
    exact key_eq (by unfold isId at hid; simpa using hid)
theorem stay_pair (was : List S41) (rows : List S45) (h : rows.Pairwise NeR) : (stayL was rows).Pairwise NeA := by
  induction rows with
  | nil => exact List.Pairwise.nil
  | cons r rows ih =>
    obtain ⟨h1, h2⟩ := List.pairwise_cons.1 h
    have hr := ih h2
    cases hf : was.find? (isId r.f0) with
    | none =>
      have e : stayL was (r :: rows) = stayL was rows := by unfold stayL; rw [List.filterMap_cons, hf]; rfl
      rw [e]; exact hr
    | some b =>
      have e : stayL was (r :: rows) = ⟨b.f0, r.f1, b.f2, b.f3⟩ :: stayL was rows := by unfold stayL; rw [List.filterMap_cons, hf]; rfl
      rw [e]
      refine List.Pairwise.cons (fun a ha => ?_) hr
      obtain ⟨r', hr', _, e'⟩ := stay_mem was rows a ha
      have hid := List.find?_some hf
      have hb : b.f0 = r.f0 := key_eq (by unfold isId at hid; simpa using hid)
      show b.f0 ≠ a.f0
      rw [hb, e']
      exact h1 r' hr'
theorem steps_pair (s : ByteArray) (h : Nat) (q : List S45) (hq : q.Pairwise NeR) : ∀ (l : List S41), l.Pairwise NeA → (∀ a, a ∈ l → ∀ r, r ∈ q → a.f0 ≠ r.f0) → (q.foldl (placeStep s h) l).Pairwise NeA := by
  induction q with
  | nil => exact fun l hl _ => hl
  | cons x q ih =>
    intro l hl hd
    obtain ⟨h1, h2⟩ := List.pairwise_cons.1 hq
    rw [List.foldl_cons]
    refine ih h2 _ ?_ ?_
    · unfold placeStep
      rw [List.pairwise_append]
      refine ⟨hl, List.pairwise_singleton _ _, fun a ha b hb => ?_⟩
      rw [List.mem_singleton] at hb
      subst hb
      exact hd a ha x (List.mem_cons_self ..)
    · intro a ha r hr
      unfold placeStep at ha
      rcases List.mem_append.1 ha with h3 | h3
      · exact hd a h3 r (List.mem_cons_of_mem _ hr)
      · rw [List.mem_singleton] at h3
        subst h3
        exact h1 r hr
theorem unlike_of {l : List S41} (h : l.Pairwise NeA) : ∀ x, x ∈ l → ∀ y, y ∈ l → (accKey x).toList = (accKey y).toList → x = y := by
  rw [List.pairwise_iff_getElem] at h
  intro x hx y hy he
  have he2 : x.f0 = y.f0 := key_eq he
  obtain ⟨i, hi, rfl⟩ := List.getElem_of_mem hx
  obtain ⟨j, hj, rfl⟩ := List.getElem_of_mem hy
  rcases Nat.lt_trichotomy i j with h1 | h1 | h1
  · exact absurd he2 (h i j hi hj h1)
  · subst h1; rfl
  · exact absurd he2.symm (h j i hj hi h1)
theorem placeL_pair (s : ByteArray) (h : Nat) (was : List S41) (rows : List S45) (hr : rows.Pairwise NeR) : (placeL s h was rows (comingL was (insSort rowKey rows))).Pairwise NeA := by
  obtain ⟨_, hp, _⟩ := insSort_sorts rowKey rows
  have hR : (insSort rowKey rows).Pairwise NeR := (hp.pairwise_iff (fun h e => h e.symm)).2 hr
  unfold placeL
  refine steps_pair s h _ ?_ _ (stay_pair was rows hr) ?_
  · unfold comingL
    exact hR.sublist List.filter_sublist
  · intro a ha r hr' e
    obtain ⟨r', _, hh, e'⟩ := stay_mem was rows a ha
    have h3 := (List.mem_filter.1 (show r ∈ (insSort rowKey rows).filter fun x => !hadB was x from hr')).2
    rw [had_id was r r' (by rw [← e, e']), hh] at h3
    cases h3
theorem find_was (was : List S41) (h : was.Pairwise (fun x y => x.f0 ≠ y.f0 ∧ x.f3 ≠ y.f3)) (a : ByteArray) : was.reverse.find? (isId a) = was.find? (isId a) := by
  refine find_rev _ _ (fun x hx y hy px py => ?_)
  refine unlike_of (h.imp (fun h => h.1)) x hx y hy ?_
  unfold isId at px py
  have e1 : x.f0.toList = a.toList := by simpa using px
  have e2 : y.f0.toList = a.toList := by simpa using py
  show x.f0.toList = y.f0.toList
  rw [e1, e2]
/-- Accounts and rows in the other order come to the same. -/
theorem place_turned (a0 : ByteArray) (a1 : Int) (l : List S41) (r : List S45) : slots_Place.f a0 a1 l.reverse r.reverse = slots_Place.f a0 a1 l r := by
  unfold slots_Place.f
  rw [may_rev, rowed_rev, List.length_reverse, List.length_reverse]
  refine ite_congr (by simp only [List.mem_reverse]) (fun _ => congrArg some ?_) (fun _ => rfl)
  refine ite_congr rfl (fun _ => rfl) (fun _ => ite_congr rfl (fun _ => rfl) (fun _ => ite_congr rfl (fun _ => rfl) (fun hm => ite_congr rfl (fun _ => rfl) (fun _ => ?_))))
  rw [Bool.not_eq_false, Bool.and_eq_true] at hm
  obtain ⟨hm1, hm2⟩ := hm
  have hw := ((mayFrom_iff _ _).1 hm1).2
  have hr := ((rowedFrom_iff _).1 hm2).2
  rw [insSort_rev r hm2]
  have hh : ∀ x, hadB l.reverse x = hadB l x := fun x => by unfold hadB; rw [find_was l hw]
  have hc : comingL l.reverse (insSort rowKey r) = comingL l (insSort rowKey r) := by
    unfold comingL
    exact List.filter_congr (fun x _ => by rw [hh])
  have hs : stayL l.reverse r.reverse = (stayL l r).reverse := by
    unfold stayL
    rw [List.filterMap_reverse]
    refine congrArg List.reverse (congrArg (fun f => List.filterMap f r) ?_)
    funext x
    rw [find_was l hw]
  rw [hc]
  have hp : (placeL a0 a1.toNat l.reverse r.reverse (comingL l (insSort rowKey r))).Perm (placeL a0 a1.toNat l r (comingL l (insSort rowKey r))) := by
    unfold placeL
    rw [hs]
    exact steps_perm a0 a1.toNat _ (List.reverse_perm _)
  have hu := unlike_of (placeL_pair a0 a1.toNat l r hr)
  obtain ⟨_, p1, o1⟩ := accSort_sorts (placeL a0 a1.toNat l.reverse r.reverse (comingL l (insSort rowKey r)))
  obtain ⟨_, p2, o2⟩ := accSort_sorts (placeL a0 a1.toNat l r (comingL l (insSort rowKey r)))
  refine congrArg (fun z => (z, (0 : Int))) ?_
  exact ordered_unique accKey _ _ (p1.trans (hp.trans p2.symm)) o1 o2 (fun x hx y hy => hu x (hp.mem_iff.1 (p1.mem_iff.1 hx)) y (hp.mem_iff.1 (p1.mem_iff.1 hy)))
end Go.Proofs.YtfijhbfdkcajjaaGreatDoor.Pr

/- Plain: the first free place, round and round; fewer numbers than places leave one free. -/
namespace Go.Proofs.YtfijhbfdkcajjaaGreatDoor.Pr
/-- The first free one, round and round. -/
theorem freeFrom_spec (free : Int → Bool) (many fr : Int) : ∀ (d k : Nat), (∃ j : Nat, k ≤ j ∧ j < k + d ∧ free ((fr % many + j) % many) = true) → ∃ j : Nat, k ≤ j ∧ j < k + d ∧ freeFrom free many fr d k = ((fr % many + j) % many, true) ∧ free ((fr % many + j) % many) = true ∧ ∀ i : Nat, k ≤ i → i < j → free ((fr % many + i) % many) = false
  | 0, k, h => by obtain ⟨j, h1, h2, _⟩ := h; omega
  | d + 1, k, h => by
    rw [freeFrom]
    by_cases c : free ((fr % many + k) % many) = true
    · rw [if_pos c]
      exact ⟨k, Nat.le_refl _, by omega, rfl, c, fun i h1 h2 => by omega⟩
    · rw [if_neg c]
      obtain ⟨j, h1, h2, h3⟩ := h
      have hjk : j ≠ k := fun e => c (e ▸ h3)
      obtain ⟨j', g1, g2, g3, g4, g5⟩ := freeFrom_spec free many fr d (k + 1) ⟨j, by omega, by omega, h3⟩
      refine ⟨j', by omega, by omega, g3, g4, fun i h1 h2 => ?_⟩
      rcases Nat.eq_or_lt_of_le h1 with rfl | h4
      · simpa using c
      · exact g5 i h4 h2
/-- Each residue is met. -/
theorem met (m : Nat) (hm : 0 < m) (fr : Int) (x : Nat) (hx : x < m) : ∃ j : Nat, j < m ∧ (fr % (m : Int) + j) % (m : Int) = (x : Int) := by
  have h0 : 0 ≤ fr % (m : Int) := Int.emod_nonneg _ (by omega)
  have h1 : fr % (m : Int) < (m : Int) := Int.emod_lt_of_pos _ (by omega)
  obtain ⟨f, hf⟩ := Int.eq_ofNat_of_zero_le h0
  rw [hf] at h1 ⊢
  by_cases c : f ≤ x
  · refine ⟨x - f, by omega, ?_⟩
    rw [show ((f : Int) + ((x - f : Nat) : Int)) = (x : Int) by omega]
    exact Int.emod_eq_of_lt (by omega) (by omega)
  · refine ⟨x + m - f, by omega, ?_⟩
    rw [show ((f : Int) + ((x + m - f : Nat) : Int)) = (x : Int) + (m : Int) by omega, Int.add_emod_right]
    exact Int.emod_eq_of_lt (by omega) (by omega)
theorem nodup_le {α : Type} [DecidableEq α] : ∀ (l m : List α), l.Nodup → (∀ x, x ∈ l → x ∈ m) → l.length ≤ m.length
  | [], m, _, _ => Nat.zero_le _
  | x :: l, m, hn, hs => by
    obtain ⟨h1, h2⟩ := List.nodup_cons.1 hn
    have hx : x ∈ m := hs x (List.mem_cons_self ..)
    have ih := nodup_le l (m.erase x) h2 (fun y hy => by
      have hne : y ≠ x := fun e => h1 (e ▸ hy)
      exact (List.mem_erase_of_ne hne).2 (hs y (List.mem_cons_of_mem _ hy)))
    rw [List.length_erase_of_mem hx] at ih
    have : 0 < m.length := List.length_pos_of_mem hx
    rw [List.length_cons]
    omega
/-- Fewer numbers than places: one place is free. -/
theorem some_free (m : Nat) (l : List Int) (h : l.length < m) : ∃ x : Nat, x < m ∧ (x : Int) ∉ l := by
  apply Classical.byContradiction
  intro hn
  have hall : ∀ x : Nat, x < m → (x : Int) ∈ l := fun x hx => Classical.byContradiction (fun hc => hn ⟨x, hx, hc⟩)
  have := nodup_le (List.range m) (l.map Int.toNat) List.nodup_range (fun x hx => List.mem_map.2 ⟨(x : Int), hall x (List.mem_range.1 hx), by simp⟩)
  rw [List.length_range, List.length_map] at this
  omega
/-- The slot that is found is one of the m, and free. -/
theorem new_slot (m : Nat) (hm : 0 < m) (free : Int → Bool) (L : List Int) (hf : ∀ a, free a = true ↔ a ∉ L) (hL : L.length < m) (fr : Int) : 0 ≤ (freeFrom free (m : Int) fr m 0).1 ∧ (freeFrom free (m : Int) fr m 0).1 < (m : Int) ∧ (freeFrom free (m : Int) fr m 0).1 ∉ L ∧ (freeFrom free (m : Int) fr m 0).2 = true := by
  obtain ⟨x, hx, hn⟩ := some_free m L hL
  obtain ⟨j, hj, e⟩ := met m hm fr x hx
  obtain ⟨j', _, _, g3, g4, _⟩ := freeFrom_spec free (m : Int) fr m 0 ⟨j, Nat.zero_le _, by omega, by rw [e]; exact (hf _).2 hn⟩
  rw [g3]
  exact ⟨Int.emod_nonneg _ (by omega), Int.emod_lt_of_pos _ (by omega), (hf _).1 g4, rfl⟩
end Go.Proofs.YtfijhbfdkcajjaaGreatDoor.Pr

/- Plain: what is placed may be accounts. -/
namespace Go.Proofs.YtfijhbfdkcajjaaGreatDoor.Pr
open Go.RowKit Go.SortKey
set_option linter.unusedVariables false
set_option linter.unusedSimpArgs false
/-- An account by itself may be, in a row of M slots. -/
def GoodA (M : Nat) (a : S41) : Prop := mayIdB a.f0 = true ∧ 0 ≤ a.f3 ∧ a.f3 < (M : Int) ∧ a.f2.size ≤ 32
abbrev NeS (x y : S41) : Prop := x.f3 ≠ y.f3
theorem stay_from (was : List S41) (rows : List S45) (a : S41) (h : a ∈ stayL was rows) : ∃ r, r ∈ rows ∧ ∃ b, b ∈ was ∧ was.find? (isId r.f0) = some b ∧ b.f0 = r.f0 ∧ a = ⟨b.f0, r.f1, b.f2, b.f3⟩ := by
  unfold stayL at h
  rw [List.mem_filterMap] at h
  obtain ⟨r, hr, he⟩ := h
  cases hf : was.find? (isId r.f0) with
  | none => rw [hf] at he; cases he
  | some b =>
    rw [hf] at he
    have hid := List.find?_some hf
    exact ⟨r, hr, b, List.mem_of_find?_eq_some hf, hf, key_eq (by unfold isId at hid; simpa using hid), (Option.some.inj he).symm⟩
theorem stay_good (M : Nat) (was : List S41) (rows : List S45) (h : ∀ b, b ∈ was → GoodA M b) : ∀ a, a ∈ stayL was rows → GoodA M a := by
  intro a ha
  obtain ⟨r, _, b, hb, _, _, rfl⟩ := stay_from was rows a ha
  exact h b hb
theorem slots_of {l : List S41} (h : l.Pairwise (fun x y => x.f0 ≠ y.f0 ∧ x.f3 ≠ y.f3)) : ∀ x, x ∈ l → ∀ y, y ∈ l → x.f0 ≠ y.f0 → x.f3 ≠ y.f3 := by
  rw [List.pairwise_iff_getElem] at h
  intro x hx y hy he
  obtain ⟨i, hi, rfl⟩ := List.getElem_of_mem hx
  obtain ⟨j, hj, rfl⟩ := List.getElem_of_mem hy
  rcases Nat.lt_trichotomy i j with h1 | h1 | h1
  · exact (h i j hi hj h1).2
  · subst h1; exact absurd rfl he
  · exact fun e => (h j i hj hi h1).2 e.symm
theorem stay_slots (was : List S41) (hw : was.Pairwise (fun x y => x.f0 ≠ y.f0 ∧ x.f3 ≠ y.f3)) (rows : List S45) (h : rows.Pairwise NeR) : (stayL was rows).Pairwise NeS := by
  induction rows with
  | nil => exact List.Pairwise.nil
  | cons r rows ih =>
    obtain ⟨h1, h2⟩ := List.pairwise_cons.1 h
    have hr := ih h2
    cases hf : was.find? (isId r.f0) with
    | none =>
      have e : stayL was (r :: rows) = stayL was rows := by unfold stayL; rw [List.filterMap_cons, hf]; rfl
      rw [e]; exact hr
    | some b =>
      have e : stayL was (r :: rows) = ⟨b.f0, r.f1, b.f2, b.f3⟩ :: stayL was rows := by unfold stayL; rw [List.filterMap_cons, hf]; rfl
      rw [e]
      refine List.Pairwise.cons (fun a ha => ?_) hr
      obtain ⟨r', hr', b', hb', _, hid', rfl⟩ := stay_from was rows a ha
      have hid := List.find?_some hf
      have hb : b.f0 = r.f0 := key_eq (by unfold isId at hid; simpa using hid)
      show b.f3 ≠ b'.f3
      exact slots_of hw b (List.mem_of_find?_eq_some hf) b' hb' (by rw [hb, hid']; exact h1 r' hr')
theorem free_iff (L : List S41) (a : Int) : isFree L a = true ↔ a ∉ L.map (·.f3) := by
  unfold isFree
  simp only [Bool.not_eq_true', List.any_eq_false, List.mem_map, beq_iff_eq]
  exact ⟨fun h ⟨x, hx, e⟩ => h x hx e, fun h x hx e => h ⟨x, hx, e⟩⟩
theorem steps_good (s : ByteArray) (h : Nat) (q : List S45) (hq : ∀ r, r ∈ q → mayIdB r.f0 = true) : ∀ (l : List S41), l.length + q.length ≤ 2 ^ h → l.Pairwise NeS → (∀ a, a ∈ l → GoodA (2 ^ h) a) → (q.foldl (placeStep s h) l).Pairwise NeS ∧ ∀ a, a ∈ q.foldl (placeStep s h) l → GoodA (2 ^ h) a := by
  induction q with
  | nil => exact fun l _ h1 h2 => ⟨h1, h2⟩
  | cons x q ih =>
    intro l hl h1 h2
    rw [List.length_cons] at hl
    obtain ⟨n1, n2, n3, _⟩ := new_slot (2 ^ h) (by omega) (isFree l) (l.map (·.f3)) (free_iff l) (by rw [List.length_map]; omega) ((Sh.numOf s (Sh.one1 5 ++ x.f0) % 2 ^ h : Nat) : Int)
    rw [List.foldl_cons]
    refine ih (fun r hr => hq r (List.mem_cons_of_mem _ hr)) _ (by unfold placeStep; rw [List.length_append, List.length_singleton]; omega) ?_ ?_
    · unfold placeStep
      rw [List.pairwise_append]
      refine ⟨h1, List.pairwise_singleton _ _, fun a ha b hb => ?_⟩
      rw [List.mem_singleton] at hb
      subst hb
      intro e
      exact n3 (List.mem_map.2 ⟨a, ha, e⟩)
    · intro a ha
      unfold placeStep at ha
      rcases List.mem_append.1 ha with h3 | h3
      · exact h2 a h3
      · rw [List.mem_singleton] at h3
        subst h3
        exact ⟨hq x (List.mem_cons_self ..), n1, n2, by show (ByteArray.extract _ 0 16).size ≤ 32; rw [ByteArray.size_extract]; omega⟩
theorem stay_count (was : List S41) (rows : List S45) : (stayL was rows).length = (rows.filter fun r => hadB was r).length := by
  induction rows with
  | nil => rfl
  | cons r rows ih =>
    cases hf : was.find? (isId r.f0) with
    | none =>
      have e : stayL was (r :: rows) = stayL was rows := by unfold stayL; rw [List.filterMap_cons, hf]; rfl
      rw [e, ih, List.filter_cons, if_neg (by unfold hadB; rw [hf]; simp)]
    | some b =>
      have e : stayL was (r :: rows) = ⟨b.f0, r.f1, b.f2, b.f3⟩ :: stayL was rows := by unfold stayL; rw [List.filterMap_cons, hf]; rfl
      rw [e, List.filter_cons, if_pos (by unfold hadB; rw [hf]; rfl), List.length_cons, List.length_cons, ih]
theorem split_count {α : Type} (p : α → Bool) (l : List α) : (l.filter p).length + (l.filter fun x => !p x).length = l.length := by
  induction l with
  | nil => rfl
  | cons x l ih =>
    rw [List.filter_cons, List.filter_cons]
    cases p x <;> simp <;> omega
/-- One account for each row. -/
theorem placeL_count (s : ByteArray) (h : Nat) (was : List S41) (rows : List S45) : (placeL s h was rows (comingL was (insSort rowKey rows))).length = rows.length := by
  rw [placeL_len, stay_count]
  have e : (comingL was (insSort rowKey rows)).length = (rows.filter fun x => !hadB was x).length := by
    unfold comingL
    exact ((insSort_sorts rowKey rows).2.1.filter _).length_eq
  rw [e]
  exact split_count _ _
/-- What is placed may be accounts. -/
theorem place_may (s : ByteArray) (h : Nat) (was : List S41) (rows : List S45) (hw : ∀ x, x ∈ was → 0 ≤ x.f3) (hm : mayFrom ((2 ^ h : Nat) : Int) was was.length 0 = true) (hr : rowedFrom rows rows.length 0 = true) (hc : rows.length ≤ 2 ^ h) :
    mayFrom ((2 ^ h : Nat) : Int) (accSort (placeL s h was rows (comingL was (insSort rowKey rows)))) (accSort (placeL s h was rows (comingL was (insSort rowKey rows)))).length 0 = true := by
  obtain ⟨m1, m2⟩ := (mayFrom_iff _ _).1 hm
  obtain ⟨r1, r2⟩ := (rowedFrom_iff _).1 hr
  have gw : ∀ b, b ∈ was → GoodA (2 ^ h) b := fun b hb => by
    have := m1 b hb
    simp only [Bool.and_eq_true, Bool.not_eq_true', decide_eq_false_iff_not] at this
    exact ⟨this.1, hw b hb, by have := this.2.1; omega, by have := this.2.2; omega⟩
  have hR := (insSort_sorts rowKey rows).2.1
  have cnt : (stayL was rows).length + (comingL was (insSort rowKey rows)).length ≤ 2 ^ h := by
    have := placeL_count s h was rows
    rw [placeL_len] at this
    omega
  obtain ⟨g1, g2⟩ := steps_good s h (comingL was (insSort rowKey rows)) (fun r hr => r1 r (hR.mem_iff.1 (List.mem_filter.1 (show r ∈ (insSort rowKey rows).filter fun x => !hadB was x from hr)).1)) (stayL was rows) cnt (stay_slots was m2 rows r2) (stay_good (2 ^ h) was rows gw)
  have g3 := placeL_pair s h was rows r2
  obtain ⟨_, p, _⟩ := accSort_sorts (placeL s h was rows (comingL was (insSort rowKey rows)))
  rw [mayFrom_iff]
  refine ⟨fun x hx => ?_, ?_⟩
  · obtain ⟨q1, q2, q3, q4⟩ := g2 x (p.mem_iff.1 hx)
    rw [q1, decide_eq_false (by omega), decide_eq_false (by omega)]
    rfl
  · have both : (placeL s h was rows (comingL was (insSort rowKey rows))).Pairwise (fun x y => x.f0 ≠ y.f0 ∧ x.f3 ≠ y.f3) := by
      rw [List.pairwise_iff_getElem] at g3 ⊢
      intro i j hi hj hij
      exact ⟨g3 i j hi hj hij, List.pairwise_iff_getElem.1 g1 i j hi hj hij⟩
    exact (p.pairwise_iff (fun h => ⟨fun e => h.1 e.symm, fun e => h.2 e.symm⟩)).2 both
abbrev seedSalt (s id : ByteArray) : ByteArray := (Sh.macOf s (Sh.one1 3 ++ id)).extract 0 16
theorem steps_old (s : ByteArray) (h : Nat) (q : List S45) (a : S41) : ∀ (l : List S41), a ∈ l → a ∈ q.foldl (placeStep s h) l := by
  induction q with
  | nil => exact fun l h => h
  | cons x q ih =>
    intro l ha
    rw [List.foldl_cons]
    exact ih _ (by unfold placeStep; exact List.mem_append_left _ ha)
theorem steps_new (s : ByteArray) (h : Nat) (q : List S45) (r : S45) (hr : r ∈ q) : ∀ (l : List S41), ∃ z : Int, (⟨r.f0, r.f1, seedSalt s r.f0, z⟩ : S41) ∈ q.foldl (placeStep s h) l := by
  induction q with
  | nil => cases hr
  | cons x q ih =>
    intro l
    rw [List.foldl_cons]
    rcases List.mem_cons.1 hr with rfl | hr
    · exact ⟨slotOf s h l r.f0, steps_old s h q _ _ (by unfold placeStep; exact List.mem_append_right _ (List.mem_singleton.2 rfl))⟩
    · exact ih hr _
/-- Each row's account: its amount; whoever stays keeps slot and salt, whoever is new has the seed's. -/
theorem place_row (s : ByteArray) (h : Nat) (was : List S41) (rows : List S45) (hr : rowedFrom rows rows.length 0 = true) (r : S45) (hm : r ∈ rows) :
    ∃ a, (accSort (placeL s h was rows (comingL was (insSort rowKey rows)))).find? (isId r.f0) = some a ∧ a.f0 = r.f0 ∧ a.f1 = r.f1 ∧ (∀ b, was.find? (isId r.f0) = some b → a.f3 = b.f3 ∧ a.f2 = b.f2) ∧ (was.find? (isId r.f0) = none → a.f2 = seedSalt s r.f0) := by
  have r2 := ((rowedFrom_iff _).1 hr).2
  obtain ⟨_, p, _⟩ := accSort_sorts (placeL s h was rows (comingL was (insSort rowKey rows)))
  have hu := unlike_of (placeL_pair s h was rows r2)
  have fin : ∀ a, a ∈ placeL s h was rows (comingL was (insSort rowKey rows)) → a.f0 = r.f0 → (accSort (placeL s h was rows (comingL was (insSort rowKey rows)))).find? (isId r.f0) = some a := by
    intro a ha e
    cases hf : (accSort (placeL s h was rows (comingL was (insSort rowKey rows)))).find? (isId r.f0) with
    | none =>
      rw [List.find?_eq_none] at hf
      exact absurd (show isId r.f0 a = true by unfold isId; rw [e]; exact beq_self_eq_true _) (hf a (p.mem_iff.2 ha))
    | some a' =>
      have h1 := p.mem_iff.1 (List.mem_of_find?_eq_some hf)
      have h2 := List.find?_some hf
      have h3 : a'.f0.toList = r.f0.toList := by unfold isId at h2; simpa using h2
      rw [hu a' h1 a ha (by show a'.f0.toList = a.f0.toList; rw [h3, e])]
  cases hf : was.find? (isId r.f0) with
  | some b =>
    have hid := List.find?_some hf
    have hb : b.f0 = r.f0 := key_eq (by unfold isId at hid; simpa using hid)
    have hin : (⟨b.f0, r.f1, b.f2, b.f3⟩ : S41) ∈ stayL was rows := by
      unfold stayL
      exact List.mem_filterMap.2 ⟨r, hm, by rw [hf]; rfl⟩
    refine ⟨⟨b.f0, r.f1, b.f2, b.f3⟩, fin _ (steps_old s h _ _ _ hin) hb, hb, rfl, fun b' e => ?_, fun e => by cases e⟩
    cases e
    exact ⟨rfl, rfl⟩
  | none =>
    have hin : r ∈ comingL was (insSort rowKey rows) := by
      unfold comingL
      exact List.mem_filter.2 ⟨(insSort_sorts rowKey rows).2.1.mem_iff.2 hm, by unfold hadB; rw [hf]; rfl⟩
    obtain ⟨z, hz⟩ := steps_new s h _ r hin (stayL was rows)
    exact ⟨_, fin _ hz rfl, rfl, rfl, (fun b e => by cases e), fun _ => rfl⟩
/-- Each account that is placed by itself may be. -/
theorem place_good (s : ByteArray) (h : Nat) (was : List S41) (rows : List S45) (hw : ∀ x, x ∈ was → 0 ≤ x.f3) (hm : mayFrom ((2 ^ h : Nat) : Int) was was.length 0 = true) (hr : rowedFrom rows rows.length 0 = true) (hc : rows.length ≤ 2 ^ h) :
    (placeL s h was rows (comingL was (insSort rowKey rows))).Pairwise NeS ∧ ∀ a, a ∈ placeL s h was rows (comingL was (insSort rowKey rows)) → GoodA (2 ^ h) a := by
  obtain ⟨m1, m2⟩ := (mayFrom_iff _ _).1 hm
  obtain ⟨r1, r2⟩ := (rowedFrom_iff _).1 hr
  have gw : ∀ b, b ∈ was → GoodA (2 ^ h) b := fun b hb => by
    have := m1 b hb
    simp only [Bool.and_eq_true, Bool.not_eq_true', decide_eq_false_iff_not] at this
    exact ⟨this.1, hw b hb, by have := this.2.1; omega, by have := this.2.2; omega⟩
  have hR := (insSort_sorts rowKey rows).2.1
  have cnt : (stayL was rows).length + (comingL was (insSort rowKey rows)).length ≤ 2 ^ h := by
    have := placeL_count s h was rows
    rw [placeL_len] at this
    omega
  exact steps_good s h (comingL was (insSort rowKey rows)) (fun r hr => r1 r (hR.mem_iff.1 (List.mem_filter.1 (show r ∈ (insSort rowKey rows).filter fun x => !hadB was x from hr)).1)) (stayL was rows) cnt (stay_slots was m2 rows r2) (stay_good (2 ^ h) was rows gw)
theorem steps_ids (s : ByteArray) (h : Nat) (q : List S45) (P : ByteArray → Prop) : ∀ (l : List S41), (∀ a, a ∈ l → P a.f0) → (∀ r, r ∈ q → P r.f0) → ∀ a, a ∈ q.foldl (placeStep s h) l → P a.f0 := by
  induction q with
  | nil => exact fun l h1 _ => h1
  | cons x q ih =>
    intro l h1 h2
    rw [List.foldl_cons]
    refine ih _ (fun a ha => ?_) (fun r hr => h2 r (List.mem_cons_of_mem _ hr))
    unfold placeStep at ha
    rcases List.mem_append.1 ha with h3 | h3
    · exact h1 a h3
    · rw [List.mem_singleton] at h3
      subst h3
      exact h2 x (List.mem_cons_self ..)
/-- Each placed account is some row's. -/
theorem place_ids (s : ByteArray) (h : Nat) (was : List S41) (rows : List S45) (a : S41) (ha : a ∈ placeL s h was rows (comingL was (insSort rowKey rows))) : ∃ r, r ∈ rows ∧ a.f0 = r.f0 := by
  unfold placeL at ha
  refine steps_ids s h _ (fun i => ∃ r, r ∈ rows ∧ i = r.f0) _ (fun a ha => ?_) (fun r hr => ⟨r, ?_, rfl⟩) a ha
  · obtain ⟨r, hr, _, e⟩ := stay_mem was rows a ha
    exact ⟨r, hr, e⟩
  · exact (insSort_sorts rowKey rows).2.1.mem_iff.1 (List.mem_filter.1 (show r ∈ (insSort rowKey rows).filter fun x => !hadB was x from hr)).1
end Go.Proofs.YtfijhbfdkcajjaaGreatDoor.Pr

/- Plain: SlotsNear answers true. -/
namespace Go.Proofs.YtfijhbfdkcajjaaGreatDoor.Pr
open Go.RowKit Go.Proofs.YtfijhbfdkcajjaaGreatDoorW.PrintWords Go.Proofs.YtfijhbfdkcajjaaGreatDoorW.PrintLast Go.Proofs.YtfijhbfdkcajjaaGreatDoorW.PrintMore Go.SortKey
set_option linter.unusedVariables false
set_option linter.unusedSimpArgs false
theorem rdA_is (l : List S41) (i : Nat) (h : i < l.length) : rd_T41 l (i : Int) = l[i] := by simp [rd_T41, h]
theorem rdR_is (l : List S45) (i : Nat) (h : i < l.length) : rd_T45 l (i : Int) = l[i] := by simp [rd_T45, h]
theorem wup (i : Nat) (h : i ≤ 1000000) : wrap64 ((i : Int) + 1) = ((i + 1 : Nat) : Int) := by rw [w64 (by omega) (by omega)]; push_cast; rfl
theorem wdown (i : Nat) (h : i ≤ 1000000) : wrap64 (((i + 1 : Nat) : Int) - 1 - 1) = (i : Int) - 1 := by rw [w64 (by omega) (by omega)]; omega
def longAT (x : S41) : Bool := decide (200 < x.f0.size) || decide (200 < x.f2.size)
theorem longA_l (l : List S41) (hl : l.length ≤ 1000) : ∀ (d i k : Nat), i + d = l.length → d + 1 ≤ k → paymasterlaw12_Long.l0 k l (i : Int) = some ((l.drop i).any longAT)
  | 0, i, k, hi, hk => by
    obtain ⟨k, rfl⟩ : ∃ q, k = q + 1 := ⟨k - 1, by omega⟩
    rw [paymasterlaw12_Long.l0, if_neg (by omega), List.drop_eq_nil_of_le (by omega)]; rfl
  | d + 1, i, k, hi, hk => by
    obtain ⟨k, rfl⟩ : ∃ q, k = q + 1 := ⟨k - 1, by omega⟩
    have hlt : i < l.length := by omega
    rw [paymasterlaw12_Long.l0, if_pos (by omega), if_pos (by omega), rdA_is l i hlt, List.drop_eq_getElem_cons hlt, List.any_cons]
    by_cases c1 : ((l[i].f0).size : Int) > 200
    · rw [if_pos c1, show longAT l[i] = true from by unfold longAT; simp; omega]; rfl
    · by_cases c2 : ((l[i].f2).size : Int) > 200
      · rw [if_neg c1, if_pos c2, show longAT l[i] = true from by unfold longAT; simp; omega]; rfl
      · rw [if_neg c1, if_neg c2, show longAT l[i] = false from by unfold longAT; simp; omega, wup i (by omega), longA_l l hl d (i + 1) k (by omega) (by omega), Bool.false_or]
def longRT (x : S45) : Bool := decide (200 < x.f0.size)
theorem longR_l (l : List S45) (hl : l.length ≤ 1000) : ∀ (d i k : Nat), i + d = l.length → d + 1 ≤ k → paymasterlaw10_Long.l0 k l (i : Int) = some ((l.drop i).any longRT)
  | 0, i, k, hi, hk => by
    obtain ⟨k, rfl⟩ : ∃ q, k = q + 1 := ⟨k - 1, by omega⟩
    rw [paymasterlaw10_Long.l0, if_neg (by omega), List.drop_eq_nil_of_le (by omega)]; rfl
  | d + 1, i, k, hi, hk => by
    obtain ⟨k, rfl⟩ : ∃ q, k = q + 1 := ⟨k - 1, by omega⟩
    have hlt : i < l.length := by omega
    rw [paymasterlaw10_Long.l0, if_pos (by omega), if_pos (by omega), rdR_is l i hlt, List.drop_eq_getElem_cons hlt, List.any_cons]
    by_cases c1 : ((l[i].f0).size : Int) > 200
    · rw [if_pos c1, show longRT l[i] = true from by unfold longRT; simp; omega]; rfl
    · rw [if_neg c1, show longRT l[i] = false from by unfold longRT; simp; omega, wup i (by omega), longR_l l hl d (i + 1) k (by omega) (by omega), Bool.false_or]
abbrev numA (s id : ByteArray) (h : Nat) : Int := ((Sh.numOf s (Sh.one1 5 ++ id) % 2 ^ h : Nat) : Int)
def hadW (was : List S41) (x : S41) : Prop := (was.find? (isId x.f0)).isSome = true
theorem near_steps (s : ByteArray) (h : Nat) (was : List S41) (q : List S45) : ∀ (l : List S41), (∀ x, x ∈ l → ∀ r, r ∈ q → hadW was x ∨ Op.bytesLess x.f0.toList r.f0.toList = true) → q.Pairwise (fun x y => Op.bytesLess x.f0.toList y.f0.toList = true) → l.length + q.length ≤ 2 ^ h → ∀ a, a ∈ q.foldl (placeStep s h) l →
    a ∈ l ∨ ∃ j : Nat, j < 2 ^ h ∧ a.f3 = (numA s a.f0 h % ((2 ^ h : Nat) : Int) + j) % ((2 ^ h : Nat) : Int) ∧ ∀ i : Nat, i < j → ∃ x, x ∈ q.foldl (placeStep s h) l ∧ x.f3 = (numA s a.f0 h % ((2 ^ h : Nat) : Int) + i) % ((2 ^ h : Nat) : Int) ∧ (hadW was x ∨ Op.bytesLess x.f0.toList a.f0.toList = true) := by
  induction q with
  | nil => exact fun l _ _ _ a ha => .inl ha
  | cons r q ih =>
    intro l h1 h2 h3 a ha
    obtain ⟨p1, p2⟩ := List.pairwise_cons.1 h2
    rw [List.length_cons] at h3
    rw [List.foldl_cons] at ha ⊢
    have IH := ih (placeStep s h l r) (fun x hx r' hr' => ?_) p2 (by unfold placeStep; rw [List.length_append, List.length_singleton]; omega) a ha
    · rcases IH with h4 | h4
      · unfold placeStep at h4
        rcases List.mem_append.1 h4 with h5 | h5
        · exact .inl h5
        · rw [List.mem_singleton] at h5
          right
          subst h5
          obtain ⟨x, hx, hn⟩ := some_free (2 ^ h) (l.map (·.f3)) (by rw [List.length_map]; omega)
          obtain ⟨j, hj, e⟩ := met (2 ^ h) (by omega) (numA s r.f0 h) x hx
          obtain ⟨j', _, g2, g3, g4, g5⟩ := freeFrom_spec (isFree l) ((2 ^ h : Nat) : Int) (numA s r.f0 h) (2 ^ h) 0 ⟨j, Nat.zero_le _, by omega, by rw [e]; exact (free_iff l _).2 hn⟩
          refine ⟨j', by omega, by show slotOf s h l r.f0 = _; unfold slotOf; rw [g3], fun i hi => ?_⟩
          have hf := g5 i (Nat.zero_le _) hi
          unfold isFree at hf
          rw [Bool.not_eq_false', List.any_eq_true] at hf
          obtain ⟨y, hy, ey⟩ := hf
          rw [beq_iff_eq] at ey
          exact ⟨y, steps_old s h q y _ (by unfold placeStep; exact List.mem_append_left _ hy), ey, h1 y hy r (List.mem_cons_self ..)⟩
      · exact .inr h4
    · unfold placeStep at hx
      rcases List.mem_append.1 hx with h5 | h5
      · exact h1 x h5 r' (List.mem_cons_of_mem _ hr')
      · rw [List.mem_singleton] at h5
        subst h5
        exact .inr (p1 r' hr')
theorem near_row (s : ByteArray) (h : Nat) (was : List S41) (rows : List S45) (hr : rowedFrom rows rows.length 0 = true) (hc : rows.length ≤ 2 ^ h) (a : S41) (ha : a ∈ placeL s h was rows (comingL was (insSort rowKey rows))) (hn : was.find? (isId a.f0) = none) :
    ∃ j : Nat, j < 2 ^ h ∧ a.f3 = (numA s a.f0 h % ((2 ^ h : Nat) : Int) + j) % ((2 ^ h : Nat) : Int) ∧ ∀ i : Nat, i < j → ∃ x, x ∈ placeL s h was rows (comingL was (insSort rowKey rows)) ∧ x.f3 = (numA s a.f0 h % ((2 ^ h : Nat) : Int) + i) % ((2 ^ h : Nat) : Int) ∧ (hadW was x ∨ Op.bytesLess x.f0.toList a.f0.toList = true) := by
  have stayHad : ∀ x, x ∈ stayL was rows → hadW was x := by
    intro x hx
    obtain ⟨r, _, b, _, hf, hid, rfl⟩ := stay_from was rows x hx
    show (was.find? (isId b.f0)).isSome = true
    rw [hid, hf]; rfl
  have r2 := ((rowedFrom_iff _).1 hr).2
  obtain ⟨_, hp, ho⟩ := insSort_sorts rowKey rows
  have hR : (insSort rowKey rows).Pairwise NeR := (hp.pairwise_iff (fun h e => h e.symm)).2 r2
  have hO : (insSort rowKey rows).Pairwise (fun x y => Op.bytesLess x.f0.toList y.f0.toList = true) := by
    rw [List.pairwise_iff_getElem] at hR ⊢
    intro i j hi hj hij
    have h1 := hR i j hi hj hij
    have h2 := List.pairwise_iff_getElem.1 ho i j hi hj hij
    cases hbl : Op.bytesLess ((insSort rowKey rows)[i]).f0.toList ((insSort rowKey rows)[j]).f0.toList with
    | true => rfl
    | false => exact absurd (key_eq (bl_total hbl h2)) h1
  have cnt := placeL_count s h was rows
  rw [placeL_len] at cnt
  have hS := near_steps s h was (comingL was (insSort rowKey rows)) (stayL was rows) (fun x hx r _ => .inl (stayHad x hx)) (by unfold comingL; exact hO.sublist List.filter_sublist) (by omega) a ha
  rcases hS with h1 | h1
  · have := stayHad a h1
    unfold hadW at this
    rw [hn] at this
    cases this
  · exact h1
theorem shl_powN : ∀ n : Fin 11, shl .u64 1 ((n.val : Nat) : Int) = ((2 ^ n.val : Nat) : Int) := by decide
theorem pow_smallN (n : Nat) (h : n ≤ 10) : 1 ≤ 2 ^ n ∧ 2 ^ n ≤ 1024 := by
  have a1 : (1 : Nat) ≤ 2 ^ n := Nat.one_le_two_pow
  have a2 : (2 : Nat) ^ n ≤ 2 ^ 10 := Nat.pow_le_pow_right (by omega) h
  have a3 : (2 : Nat) ^ 10 = 1024 := by decide
  omega
theorem near_l1 (a0 : ByteArray) (h : Int) (was L : List S41) (M : Nat) (hM : 1 ≤ M) (hM2 : M ≤ 1024) (hl : L.length ≤ 1000) (hwl : was.length ≤ 1000) (i : Nat) (hi : i < L.length) (f : Int) (hf0 : 0 ≤ f) (j : Nat) (hj : j < M) (ej : (L[i]).f3 = (f % (M : Int) + j) % (M : Int))
    (hwit : ∀ t : Nat, t < j → ∃ x, L.find? (isSlot ((f % (M : Int) + t) % (M : Int))) = some x ∧ (hadW was x ∨ Op.bytesLess x.f0.toList (L[i]).f0.toList = true))
    (K : Nat) (hK : ∀ k, K ≤ k → paymasterlaw12_SlotsNear.l0 k a0 h was L (M : Int) ((i + 1 : Nat) : Int) = some true) :
    ∀ (d t k : Nat), t + d = j → K + d + 1 ≤ k → paymasterlaw12_SlotsNear.l1 k a0 h was L (M : Int) (i : Int) ((f % (M : Int) + t) % (M : Int)) (t : Int) = some true := by
  intro d
  induction d with
  | zero =>
    intro t k ht hk
    obtain ⟨k, rfl⟩ : ∃ q, k = q + 1 := ⟨k - 1, by omega⟩
    obtain rfl : t = j := by omega
    rw [paymasterlaw12_SlotsNear.l1, if_pos (by omega), if_pos (by omega), rdA_is L i hi, if_pos ej.symm, wup i (by omega)]
    exact hK k (by omega)
  | succ d ih =>
    intro t k ht hk
    obtain ⟨k, rfl⟩ : ∃ q, k = q + 1 := ⟨k - 1, by omega⟩
    rw [paymasterlaw12_SlotsNear.l1, if_pos (by omega), if_pos (by omega), rdA_is L i hi, wup i (by omega)]
    by_cases c : (f % (M : Int) + t) % (M : Int) = (L[i]).f3
    · rw [if_pos c]
      exact hK k (by omega)
    · rw [if_neg c]
      obtain ⟨x, hx, hor⟩ := hwit t (by omega)
      have ih := ih (t + 1) k (by omega) (by omega)
      have b0 : 0 ≤ (f % (M : Int) + t) % (M : Int) := Int.emod_nonneg _ (by omega)
      have b1 : (f % (M : Int) + t) % (M : Int) < (M : Int) := Int.emod_lt_of_pos _ (by omega)
      have en : Int.tmod (IntKind.u64.wrap ((f % (M : Int) + t) % (M : Int) + 1)) (M : Int) = (f % (M : Int) + ((t + 1 : Nat) : Int)) % (M : Int) := by
        rw [IntWalk.u64_in _ (by omega), Int.tmod_eq_emod_of_nonneg (by omega)]
        rw [show (f % (M : Int) + ((t + 1 : Nat) : Int)) = (f % (M : Int) + t) + 1 by omega]
        rw [Int.add_emod ((f % (M : Int) + t) % (M : Int)) 1, Int.emod_emod, ← Int.add_emod]
      have ek : IntKind.u64.wrap ((t : Int) + 1) = ((t + 1 : Nat) : Int) := by rw [IntWalk.u64_in _ (by omega)]; omega
      rw [en, ek, ih]
      have e1 : slots_At.f L ((f % (M : Int) + t) % (M : Int)) = some (foundT (some x)) := by unfold slots_At.f; rw [if_pos (by omega), hx]
      have e2 : slots_Find.f was x.f0 = some (foundT (was.find? (isId x.f0))) := by unfold slots_Find.f; rw [if_pos (by omega)]
      rw [e1, Option.bind_some, show (foundT (some x)).1 = x.f0 from rfl, e2, Option.bind_some]
      refine (if_pos (show (foundT (some x)).2.2.2.2.2 = true from rfl)).trans ?_
      cases hf : was.find? (isId x.f0) with
      | none =>
        have hlt : Op.bytesLess x.f0.toList (L[i]).f0.toList = true := by
          rcases hor with h1 | h1
          · unfold hadW at h1; rw [hf] at h1; cases h1
          · exact h1
        refine (if_neg (show ¬ ((foundT none).2.2.2.2.2 = true) from by simp [foundT])).trans ?_
        refine (if_pos hlt).trans ?_
        rw [if_neg (by omega), if_neg (by omega)]
      | some b =>
        refine (if_pos (show (foundT (some b)).2.2.2.2.2 = true from rfl)).trans ?_
        rw [if_neg (by omega), if_neg (by omega)]
theorem near_l0 (a0 : ByteArray) (hs : a0.size ≤ 64) (n : Nat) (hn : n ≤ 10) (was L : List S41) (hl : L.length ≤ 1000) (hwl : was.length ≤ 1000) (hid : ∀ x, x ∈ L → x.f0.size ≤ 1000)
    (hrow : ∀ a, a ∈ L → was.find? (isId a.f0) = none → ∃ j : Nat, j < 2 ^ n ∧ a.f3 = (numA a0 a.f0 n % ((2 ^ n : Nat) : Int) + j) % ((2 ^ n : Nat) : Int) ∧ ∀ i : Nat, i < j → ∃ x, L.find? (isSlot ((numA a0 a.f0 n % ((2 ^ n : Nat) : Int) + i) % ((2 ^ n : Nat) : Int))) = some x ∧ (hadW was x ∨ Op.bytesLess x.f0.toList a.f0.toList = true)) :
    ∀ (d i k : Nat), i + d = L.length → d * 1100 + 1 ≤ k → paymasterlaw12_SlotsNear.l0 k a0 (n : Int) was L ((2 ^ n : Nat) : Int) (i : Int) = some true := by
  obtain ⟨p1, p2⟩ := pow_smallN n hn
  intro d
  induction d with
  | zero =>
    intro i k hi hk
    obtain ⟨k, rfl⟩ : ∃ q, k = q + 1 := ⟨k - 1, by omega⟩
    rw [paymasterlaw12_SlotsNear.l0, if_neg (by omega)]
  | succ d ih =>
    intro i k hi hk
    rw [Nat.succ_mul] at hk
    generalize d * 1100 = D at *
    obtain ⟨k, rfl⟩ : ∃ q, k = q + 1 := ⟨k - 1, by omega⟩
    have hlt : i < L.length := by omega
    have hsz := hid _ (List.getElem_mem hlt)
    have hR := hrow _ (List.getElem_mem hlt)
    rw [paymasterlaw12_SlotsNear.l0, if_pos (by omega), if_pos (by omega), rdA_is L i hlt, wup i (by omega)]
    have e2 : slots_Find.f was (L[i]).f0 = some (foundT (was.find? (isId (L[i]).f0))) := by unfold slots_Find.f; rw [if_pos (by omega)]
    rw [e2, Option.bind_some]
    cases hf : was.find? (isId (L[i]).f0) with
    | some b =>
      refine (if_pos (show (foundT (some b)).2.2.2.2.2 = true from rfl)).trans ?_
      exact ih (i + 1) k (by omega) (by omega)
    | none =>
      obtain ⟨j, hj, ej, hwit⟩ := hR hf
      have e3 : tag_First.f a0 (L[i]).f0 (n : Int) = some (numA a0 (L[i]).f0 n) := by unfold tag_First.f; rw [if_pos (by omega), Int.toNat_natCast]
      refine (if_neg (show ¬ ((foundT none).2.2.2.2.2 = true) from by simp [foundT])).trans ?_
      rw [e3, Option.bind_some]
      have f0 : 0 ≤ numA a0 (L[i]).f0 n := Int.natCast_nonneg _
      have f1 : numA a0 (L[i]).f0 n < ((2 ^ n : Nat) : Int) := Int.ofNat_lt.2 (Nat.mod_lt _ (by omega))
      clear hR e2 e3 hf
      generalize numA a0 (L[i]).f0 n = f at *
      have hl1 := near_l1 a0 (n : Int) was L (2 ^ n) p1 p2 hl hwl i hlt f f0 j hj ej hwit (D + 1) (fun k hk => ih (i + 1) k (by omega) hk) j 0 k (by omega) (by omega)
      rw [show ((0 : Nat) : Int) = 0 from rfl, Int.add_zero, Int.emod_emod, Int.emod_eq_of_lt f0 f1] at hl1
      exact hl1
theorem near_pure (a0 : ByteArray) (a1 : Int) (l : List S41) (rows : List S45) (hw : ∀ x, x ∈ l → (Lit.int .u64 x.f3).wf = true) : ∃ k, paymasterlaw12_SlotsNear.f k a0 a1 l rows = some true := by
  obtain ⟨K, hK⟩ : ∃ K : Nat, 400000 ≤ K := ⟨400000, Nat.le_refl _⟩
  refine ⟨K + 1, ?_⟩
  unfold paymasterlaw12_SlotsNear.f paymasterlaw12_awake.f
  rw [Option.bind_some, if_pos rfl]
  have hj : paymasterlaw12_SlotsNear.j0 (K + 1) a0 a1 l rows true = some true := by rw [paymasterlaw12_SlotsNear.j0, if_pos rfl]
  by_cases c : (a0.size : Int) > 64
  · rw [if_pos c, hj]
  rw [if_neg c]
  unfold paymasterlaw12_Long.f
  by_cases c2 : (l.length : Int) > 200
  · rw [if_pos c2, Option.bind_some, if_pos rfl, hj]
  rw [if_neg c2]
  have hLo := longA_l l (by omega) l.length 0 (K + 1) (by omega) (by omega)
  rw [List.drop_zero, show ((0 : Nat) : Int) = 0 from rfl] at hLo
  rw [hLo, Option.bind_some]
  cases hb : l.any longAT with
  | true => rw [if_pos rfl, hj]
  | false =>
    rw [if_neg (by simp)]
    unfold paymasterlaw10_Long.f
    by_cases c3 : (rows.length : Int) > 200
    · rw [if_pos c3, Option.bind_some, hj]
    rw [if_neg c3]
    have hRo := longR_l rows (by omega) rows.length 0 (K + 1) (by omega) (by omega)
    rw [List.drop_zero, show ((0 : Nat) : Int) = 0 from rfl] at hRo
    rw [hRo, Option.bind_some]
    cases hb2 : rows.any longRT with
    | true => rw [hj]
    | false =>
      rw [paymasterlaw12_SlotsNear.j0, if_neg (by simp)]
      have hsz : ∀ x, x ∈ l → x.f0.size ≤ 1000 := by
        intro x hx
        have := List.any_eq_false.1 hb x hx
        unfold longAT at this
        simp at this
        omega
      have hsr : ∀ x, x ∈ rows → x.f0.size ≤ 1000 := by
        intro x hx
        have := List.any_eq_false.1 hb2 x hx
        unfold longRT at this
        simp at this
        omega
      have hc : l.length ≤ 100000 ∧ (∀ x, x ∈ l → x.f0.size ≤ 1000) ∧ (∀ x, x ∈ l → (Lit.int .u64 x.f3).wf = true) ∧ rows.length ≤ 300 ∧ (∀ x, x ∈ rows → x.f0.size ≤ 1000) := ⟨by omega, hsz, hw, by omega, hsr⟩
      have hj1 : ∀ k h (e : Int) L, paymasterlaw12_SlotsNear.j1 (k + 1) a0 h l L e true = some (e != 0) := fun k h e L => by rw [paymasterlaw12_SlotsNear.j1, if_pos rfl]
      obtain ⟨K, rfl⟩ : ∃ q, K = q + 1 := ⟨K - 1, by omega⟩
      unfold slots_Place.f
      rw [if_pos hc, Option.bind_some]
      by_cases ch : 0 ≤ a1 ∧ a1 ≤ 10
      case neg =>
        rw [if_pos ch]
        dsimp only
        rw [if_neg (by decide), hj1]
        rfl
      rw [if_neg (not_not_intro ch), if_neg (show ¬ 64 < a0.size by omega)]
      obtain ⟨n, rfl⟩ := Int.eq_ofNat_of_zero_le ch.1
      rw [Int.toNat_natCast]
      have hn : n ≤ 10 := by omega
      obtain ⟨p1, p2⟩ := pow_smallN n hn
      by_cases cm : (mayFrom ((2 ^ n : Nat) : Int) l l.length 0 && rowedFrom rows rows.length 0) = false
      · rw [if_pos cm]
        dsimp only
        rw [if_neg (by decide), hj1]
        rfl
      rw [if_neg cm]
      rw [Bool.not_eq_false, Bool.and_eq_true] at cm
      obtain ⟨hm1, hm2⟩ := cm
      by_cases cq : 2 ^ n < rows.length
      · rw [if_pos cq]
        dsimp only
        rw [if_neg (by decide), hj1]
        rfl
      rw [if_neg cq]
      dsimp only
      have hw0 : ∀ x, x ∈ l → 0 ≤ x.f3 := by
        intro x hx
        have := hw x hx
        simp only [Lit.wf, IntKind.min, IntKind.max, IntKind.signed, Bool.and_eq_true, decide_eq_true_eq] at this
        have := this.1
        simpa using this
      obtain ⟨gs, _⟩ := place_good a0 n l rows hw0 hm1 hm2 (by omega)
      have hcnt := placeL_count a0 n l rows
      obtain ⟨s1, s2, _⟩ := accSort_sorts (placeL a0 n l rows (comingL l (insSort rowKey rows)))
      have hids := place_ids a0 n l rows
      have hrow := near_row a0 n l rows hm2 (by omega)
      rw [hcnt] at s1
      generalize placeL a0 n l rows (comingL l (insSort rowKey rows)) = Q at *
      generalize accSort Q = L at *
      have hnd : L.Pairwise NeS := (s2.pairwise_iff (fun h e => h e.symm)).2 gs
      have hfind : ∀ x, x ∈ L → L.find? (isSlot x.f3) = some x := by
        intro x hx
        cases hf : L.find? (isSlot x.f3) with
        | none => exact absurd (show isSlot x.f3 x = true by unfold isSlot; simp) ((List.find?_eq_none.1 hf) x hx)
        | some y =>
          have hy := List.mem_of_find?_eq_some hf
          have e := List.find?_some hf
          unfold isSlot at e
          rw [beq_iff_eq] at e
          obtain ⟨i, hi, rfl⟩ := List.getElem_of_mem hx
          obtain ⟨k, hk, rfl⟩ := List.getElem_of_mem hy
          rcases Nat.lt_trichotomy i k with h1 | h1 | h1
          · exact absurd e.symm (List.pairwise_iff_getElem.1 hnd i k hi hk h1)
          · subst h1; rfl
          · exact absurd e (List.pairwise_iff_getElem.1 hnd k i hk hi h1)
      have ewr : IntKind.u64.wrap (n : Int) = (n : Int) := IntWalk.u64_in _ (by omega)
      have esh : shl .u64 1 (n : Int) = ((2 ^ n : Nat) : Int) := shl_powN ⟨n, by omega⟩
      rw [if_pos rfl, if_neg (by omega), decide_eq_false (by omega), paymasterlaw12_SlotsNear.j1, if_neg (by simp), ewr, if_pos (by omega), esh]
      refine near_l0 a0 (by omega) n hn l L (by omega) (by omega) (fun x hx => ?_) (fun a ha hf => ?_) L.length 0 K (by omega) (by omega)
      · obtain ⟨r, hr, e⟩ := hids x (s2.mem_iff.1 hx)
        rw [e]; exact hsr r hr
      · obtain ⟨j, hj, ej, hwit⟩ := hrow a (s2.mem_iff.1 ha) hf
        refine ⟨j, hj, ej, fun i hi => ?_⟩
        obtain ⟨x, hx, ex, hor⟩ := hwit i hi
        exact ⟨x, by rw [← ex]; exact hfind x (s2.mem_iff.2 hx), hor⟩
end Go.Proofs.YtfijhbfdkcajjaaGreatDoor.Pr
