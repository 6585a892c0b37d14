/- Plain: accounts and rows in another order come to the same; SlotsTurned answers true. -/
import Derived.Test.YtfijhbfdkcajjaaGreatDoorPlaceF
import Derived.Test.YtfijhbfdkcajjaaGreatDoorPrx12
/- Plain: accounts and rows in another order come to the same places. -/
namespace Go.Proofs.YtfijhbfdkcajjaaGreatDoor.Pr
open Go.RowKit Go.SortKey
set_option linter.unusedVariables false
set_option linter.unusedSimpArgs false
theorem find_rev {α : Type} (p : α → Bool) (l : List α) (h : ∀ x, x ∈ l → ∀ y, y ∈ l → p x = true → p y = true → x = y) : l.reverse.find? p = l.find? p := by
  cases hf : l.find? p with
  | none =>
    rw [List.find?_eq_none] at hf ⊢
    exact fun x hx => hf x (List.mem_reverse.1 hx)
  | some x =>
    have hx := List.mem_of_find?_eq_some hf
    have hp := List.find?_some hf
    cases hg : l.reverse.find? p with
    | none =>
      rw [List.find?_eq_none] at hg
      exact absurd hp (hg x (List.mem_reverse.2 hx))
    | some y => rw [h y (List.mem_reverse.1 (List.mem_of_find?_eq_some hg)) x hx (List.find?_some hg) hp]
/-- Whether accounts may be, said of the list as a whole. -/
theorem mayFrom_iff (M : Int) (l : List S41) : mayFrom M l l.length 0 = true ↔ (∀ x, x ∈ l → (mayIdB x.f0 && (!decide (M ≤ x.f3) && !decide (32 < (x.f2.size : Int)))) = true) ∧ l.Pairwise (fun x y => x.f0 ≠ y.f0 ∧ x.f3 ≠ y.f3) := by
  have key : ∀ d i, i + d = l.length → (mayFrom M l d i = true ↔ ∀ j, i ≤ j → j < l.length → okAt M l j = true) := by
    intro d
    induction d with
    | zero => intro i hi; exact ⟨fun _ j h1 h2 => by omega, fun _ => rfl⟩
    | succ d ih =>
      intro i hi
      rw [mayFrom, Bool.and_eq_true, ih (i + 1) (by omega)]
      constructor
      · rintro ⟨h1, h2⟩ j h3 h4
        rcases Nat.eq_or_lt_of_le h3 with rfl | h5
        · exact h1
        · exact h2 j h5 h4
      · exact fun h => ⟨h i (Nat.le_refl _) (by omega), fun j h1 h2 => h j (by omega) h2⟩
  rw [key l.length 0 (by omega), List.pairwise_iff_getElem]
  have ok : ∀ j (hj : j < l.length), okAt M l j = true ↔ (mayIdB (l[j]).f0 && (!decide (M ≤ (l[j]).f3) && !decide (32 < ((l[j]).f2.size : Int)))) = true ∧ ∀ i (hi : i < j), (l[i]).f0 ≠ (l[j]).f0 ∧ (l[i]).f3 ≠ (l[j]).f3 := by
    intro j hj
    unfold okAt
    rw [List.getElem?_eq_getElem hj]
    simp only [Bool.and_eq_true, Bool.not_eq_true', List.any_eq_false, decide_eq_true_eq]
    constructor
    · rintro ⟨h1, h2, h3, h4, h5⟩
      exact ⟨⟨h1, h2, h3⟩, fun i hi => ⟨h4 _ (List.mem_take_iff_getElem.2 ⟨i, by omega, rfl⟩), h5 _ (List.mem_take_iff_getElem.2 ⟨i, by omega, rfl⟩)⟩⟩
    · rintro ⟨⟨h1, h2, h3⟩, h4⟩
      refine ⟨h1, h2, h3, fun x hx => ?_, fun x hx => ?_⟩
      · obtain ⟨i, hi, rfl⟩ := List.mem_take_iff_getElem.1 hx
        exact (h4 i (by omega)).1
      · obtain ⟨i, hi, rfl⟩ := List.mem_take_iff_getElem.1 hx
        exact (h4 i (by omega)).2
  constructor
  · intro h
    refine ⟨fun x hx => ?_, fun i j hi hj hij => ((ok j hj).1 (h j (Nat.zero_le _) hj)).2 i hij⟩
    obtain ⟨j, hj, rfl⟩ := List.getElem_of_mem hx
    exact ((ok j hj).1 (h j (Nat.zero_le _) hj)).1
  · rintro ⟨h1, h2⟩ j _ hj
    exact (ok j hj).2 ⟨h1 _ (List.getElem_mem hj), fun i hi => h2 i j (by omega) hj hi⟩
theorem may_rev (M : Int) (l : List S41) : mayFrom M l.reverse l.reverse.length 0 = mayFrom M l l.length 0 := by
  rw [Bool.eq_iff_iff, mayFrom_iff, mayFrom_iff, List.pairwise_reverse]
  refine and_congr ⟨fun h x hx => h x (List.mem_reverse.2 hx), fun h x hx => h x (List.mem_reverse.1 hx)⟩ ?_
  constructor
  · exact fun h => h.imp (fun h => ⟨fun e => h.1 e.symm, fun e => h.2 e.symm⟩)
  · exact fun h => h.imp (fun h => ⟨fun e => h.1 e.symm, fun e => h.2 e.symm⟩)
theorem rowedFrom_iff (l : List S45) : rowedFrom l l.length 0 = true ↔ (∀ x, x ∈ l → mayIdB x.f0 = true) ∧ l.Pairwise (fun x y => x.f0 ≠ y.f0) := by
  have key : ∀ d i, i + d = l.length → (rowedFrom l d i = true ↔ ∀ j, i ≤ j → j < l.length → okRow l j = true) := by
    intro d
    induction d with
    | zero => intro i hi; exact ⟨fun _ j h1 h2 => by omega, fun _ => rfl⟩
    | succ d ih =>
      intro i hi
      rw [rowedFrom, Bool.and_eq_true, ih (i + 1) (by omega)]
      constructor
      · rintro ⟨h1, h2⟩ j h3 h4
        rcases Nat.eq_or_lt_of_le h3 with rfl | h5
        · exact h1
        · exact h2 j h5 h4
      · exact fun h => ⟨h i (Nat.le_refl _) (by omega), fun j h1 h2 => h j (by omega) h2⟩
  rw [key l.length 0 (by omega), List.pairwise_iff_getElem]
  have ok : ∀ j (hj : j < l.length), okRow l j = true ↔ mayIdB (l[j]).f0 = true ∧ ∀ i (hi : i < j), (l[i]).f0 ≠ (l[j]).f0 := by
    intro j hj
    unfold okRow
    rw [List.getElem?_eq_getElem hj]
    simp only [Bool.and_eq_true, Bool.not_eq_true', List.any_eq_false, decide_eq_true_eq]
    refine and_congr Iff.rfl ⟨fun h i hi => h _ (List.mem_take_iff_getElem.2 ⟨i, by omega, rfl⟩), fun h x hx => ?_⟩
    obtain ⟨i, hi, rfl⟩ := List.mem_take_iff_getElem.1 hx
    exact h i (by omega)
  constructor
  · intro h
    refine ⟨fun x hx => ?_, fun i j hi hj hij => ((ok j hj).1 (h j (Nat.zero_le _) hj)).2 i hij⟩
    obtain ⟨j, hj, rfl⟩ := List.getElem_of_mem hx
    exact ((ok j hj).1 (h j (Nat.zero_le _) hj)).1
  · rintro ⟨h1, h2⟩ j _ hj
    exact (ok j hj).2 ⟨h1 _ (List.getElem_mem hj), fun i hi => h2 i j (by omega) hj hi⟩
theorem rowed_rev (l : List S45) : rowedFrom l.reverse l.reverse.length 0 = rowedFrom l l.length 0 := by
  rw [Bool.eq_iff_iff, rowedFrom_iff, rowedFrom_iff, List.pairwise_reverse]
  refine and_congr ⟨fun h x hx => h x (List.mem_reverse.2 hx), fun h x hx => h x (List.mem_reverse.1 hx)⟩ ?_
  exact ⟨fun h => h.imp (fun h e => h e.symm), fun h => h.imp (fun h e => h e.symm)⟩
theorem key_eq {a b : ByteArray} (h : a.toList = b.toList) : a = b := byteArray_inj (by rw [ByteArray.toList_eq, ByteArray.toList_eq] at h; exact h)
theorem insSort_rev (l : List S45) (h : rowedFrom l l.length 0 = true) : insSort rowKey l.reverse = insSort rowKey l := by
  obtain ⟨_, p1, o1⟩ := insSort_sorts rowKey l.reverse
  obtain ⟨_, p2, o2⟩ := insSort_sorts rowKey l
  exact ordered_unique rowKey _ _ (p1.trans ((List.reverse_perm l).trans p2.symm)) o1 o2 (fun x hx y hy => rowed_unlike l h x (List.mem_reverse.1 (p1.mem_iff.1 hx)) y (List.mem_reverse.1 (p1.mem_iff.1 hy)))
theorem isFree_perm {l m : List S41} (h : l.Perm m) : isFree l = isFree m := by
  funext a
  unfold isFree
  congr 1
  rw [Bool.eq_iff_iff, List.any_eq_true, List.any_eq_true]
  exact ⟨fun ⟨x, hx, e⟩ => ⟨x, h.mem_iff.1 hx, e⟩, fun ⟨x, hx, e⟩ => ⟨x, h.mem_iff.2 hx, e⟩⟩
theorem steps_perm (s : ByteArray) (h : Nat) (q : List S45) : ∀ {l m : List S41}, l.Perm m → (q.foldl (placeStep s h) l).Perm (q.foldl (placeStep s h) m) := by
  induction q with
  | nil => exact fun h => h
  | cons x q ih =>
    intro l m hp
    rw [List.foldl_cons, List.foldl_cons]
    refine ih ?_
    unfold placeStep slotOf
    rw [isFree_perm hp]
    exact hp.append_right _
abbrev NeA (x y : S41) : Prop := x.f0 ≠ y.f0
abbrev NeR (x y : S45) : Prop := x.f0 ≠ y.f0
theorem had_id (was : List S41) (x y : S45) (h : x.f0 = y.f0) : hadB was x = hadB was y := by unfold hadB; rw [h]
theorem stay_mem (was : List S41) (rows : List S45) (a : S41) (h : a ∈ stayL was rows) : ∃ r, r ∈ rows ∧ hadB was r = true ∧ a.f0 = r.f0 := by
  unfold stayL at h
  rw [List.mem_filterMap] at h
  obtain ⟨r, hr, he⟩ := h
  cases hf : was.find? (isId r.f0) with
  | none => rw [hf] at he; cases he
  | some b =>
    rw [hf] at he
    have hid := List.find?_some hf
    have he := Option.some.inj he
    refine ⟨r, hr, by unfold hadB; rw [hf]; rfl, ?_⟩
    rw [← he]
    exact key_eq (by unfold isId at hid; simpa using hid)
theorem stay_pair (was : List S41) (rows : List S45) (h : rows.Pairwise NeR) : (stayL was rows).Pairwise NeA := by
  induction rows with
  | nil => exact List.Pairwise.nil
  | cons r rows ih =>
    obtain ⟨h1, h2⟩ := List.pairwise_cons.1 h
    have hr := ih h2
    cases hf : was.find? (isId r.f0) with
    | none =>
      have e : stayL was (r :: rows) = stayL was rows := by unfold stayL; rw [List.filterMap_cons, hf]; rfl
      rw [e]; exact hr
    | some b =>
      have e : stayL was (r :: rows) = ⟨b.f0, r.f1, b.f2, b.f3⟩ :: stayL was rows := by unfold stayL; rw [List.filterMap_cons, hf]; rfl
      rw [e]
      refine List.Pairwise.cons (fun a ha => ?_) hr
      obtain ⟨r', hr', _, e'⟩ := stay_mem was rows a ha
      have hid := List.find?_some hf
      have hb : b.f0 = r.f0 := key_eq (by unfold isId at hid; simpa using hid)
      show b.f0 ≠ a.f0
      rw [hb, e']
      exact h1 r' hr'
theorem steps_pair (s : ByteArray) (h : Nat) (q : List S45) (hq : q.Pairwise NeR) : ∀ (l : List S41), l.Pairwise NeA → (∀ a, a ∈ l → ∀ r, r ∈ q → a.f0 ≠ r.f0) → (q.foldl (placeStep s h) l).Pairwise NeA := by
  induction q with
  | nil => exact fun l hl _ => hl
  | cons x q ih =>
    intro l hl hd
    obtain ⟨h1, h2⟩ := List.pairwise_cons.1 hq
    rw [List.foldl_cons]
    refine ih h2 _ ?_ ?_
    · unfold placeStep
      rw [List.pairwise_append]
      refine ⟨hl, List.pairwise_singleton _ _, fun a ha b hb => ?_⟩
      rw [List.mem_singleton] at hb
      subst hb
      exact hd a ha x (List.mem_cons_self ..)
    · intro a ha r hr
      unfold placeStep at ha
      rcases List.mem_append.1 ha with h3 | h3
      · exact hd a h3 r (List.mem_cons_of_mem _ hr)
      · rw [List.mem_singleton] at h3
        subst h3
        exact h1 r hr
theorem unlike_of {l : List S41} (h : l.Pairwise NeA) : ∀ x, x ∈ l → ∀ y, y ∈ l → (accKey x).toList = (accKey y).toList → x = y := by
  rw [List.pairwise_iff_getElem] at h
  intro x hx y hy he
  have he2 : x.f0 = y.f0 := key_eq he
  obtain ⟨i, hi, rfl⟩ := List.getElem_of_mem hx
  obtain ⟨j, hj, rfl⟩ := List.getElem_of_mem hy
  rcases Nat.lt_trichotomy i j with h1 | h1 | h1
  · exact absurd he2 (h i j hi hj h1)
  · subst h1; rfl
  · exact absurd he2.symm (h j i hj hi h1)
theorem placeL_pair (s : ByteArray) (h : Nat) (was : List S41) (rows : List S45) (hr : rows.Pairwise NeR) : (placeL s h was rows (comingL was (insSort rowKey rows))).Pairwise NeA := by
  obtain ⟨_, hp, _⟩ := insSort_sorts rowKey rows
  have hR : (insSort rowKey rows).Pairwise NeR := (hp.pairwise_iff (fun h e => h e.symm)).2 hr
  unfold placeL
  refine steps_pair s h _ ?_ _ (stay_pair was rows hr) ?_
  · unfold comingL
    exact hR.sublist List.filter_sublist
  · intro a ha r hr' e
    obtain ⟨r', _, hh, e'⟩ := stay_mem was rows a ha
    have h3 := (List.mem_filter.1 (show r ∈ (insSort rowKey rows).filter fun x => !hadB was x from hr')).2
    rw [had_id was r r' (by rw [← e, e']), hh] at h3
    cases h3
theorem find_was (was : List S41) (h : was.Pairwise (fun x y => x.f0 ≠ y.f0 ∧ x.f3 ≠ y.f3)) (a : ByteArray) : was.reverse.find? (isId a) = was.find? (isId a) := by
  refine find_rev _ _ (fun x hx y hy px py => ?_)
  refine unlike_of (h.imp (fun h => h.1)) x hx y hy ?_
  unfold isId at px py
  have e1 : x.f0.toList = a.toList := by simpa using px
  have e2 : y.f0.toList = a.toList := by simpa using py
  show x.f0.toList = y.f0.toList
  rw [e1, e2]
/-- Accounts and rows in the other order come to the same. -/
theorem place_turned (a0 : ByteArray) (a1 : Int) (l : List S41) (r : List S45) : slots_Place.f a0 a1 l.reverse r.reverse = slots_Place.f a0 a1 l r := by
  unfold slots_Place.f
  rw [may_rev, rowed_rev, List.length_reverse, List.length_reverse]
  refine ite_congr (by simp only [List.mem_reverse]) (fun _ => congrArg some ?_) (fun _ => rfl)
  refine ite_congr rfl (fun _ => rfl) (fun _ => ite_congr rfl (fun _ => rfl) (fun _ => ite_congr rfl (fun _ => rfl) (fun hm => ite_congr rfl (fun _ => rfl) (fun _ => ?_))))
  rw [Bool.not_eq_false, Bool.and_eq_true] at hm
  obtain ⟨hm1, hm2⟩ := hm
  have hw := ((mayFrom_iff _ _).1 hm1).2
  have hr := ((rowedFrom_iff _).1 hm2).2
  rw [insSort_rev r hm2]
  have hh : ∀ x, hadB l.reverse x = hadB l x := fun x => by unfold hadB; rw [find_was l hw]
  have hc : comingL l.reverse (insSort rowKey r) = comingL l (insSort rowKey r) := by
    unfold comingL
    exact List.filter_congr (fun x _ => by rw [hh])
  have hs : stayL l.reverse r.reverse = (stayL l r).reverse := by
    unfold stayL
    rw [List.filterMap_reverse]
    refine congrArg List.reverse (congrArg (fun f => List.filterMap f r) ?_)
    funext x
    rw [find_was l hw]
  rw [hc]
  have hp : (placeL a0 a1.toNat l.reverse r.reverse (comingL l (insSort rowKey r))).Perm (placeL a0 a1.toNat l r (comingL l (insSort rowKey r))) := by
    unfold placeL
    rw [hs]
    exact steps_perm a0 a1.toNat _ (List.reverse_perm _)
  have hu := unlike_of (placeL_pair a0 a1.toNat l r hr)
  obtain ⟨_, p1, o1⟩ := accSort_sorts (placeL a0 a1.toNat l.reverse r.reverse (comingL l (insSort rowKey r)))
  obtain ⟨_, p2, o2⟩ := accSort_sorts (placeL a0 a1.toNat l r (comingL l (insSort rowKey r)))
  refine congrArg (fun z => (z, (0 : Int))) ?_
  exact ordered_unique accKey _ _ (p1.trans (hp.trans p2.symm)) o1 o2 (fun x hx y hy => hu x (hp.mem_iff.1 (p1.mem_iff.1 hx)) y (hp.mem_iff.1 (p1.mem_iff.1 hy)))
end Go.Proofs.YtfijhbfdkcajjaaGreatDoor.Pr

/- Plain: SlotsTurned answers true. -/
namespace Go.Proofs.YtfijhbfdkcajjaaGreatDoor.Pr
open Go.RowKit Go.Proofs.YtfijhbfdkcajjaaGreatDoorW.PrintWords Go.Proofs.YtfijhbfdkcajjaaGreatDoorW.PrintLast Go.Proofs.YtfijhbfdkcajjaaGreatDoorW.PrintMore Go.SortKey
set_option linter.unusedVariables false
set_option linter.unusedSimpArgs false
theorem rdA_is (l : List S41) (i : Nat) (h : i < l.length) : rd_T41 l (i : Int) = l[i] := by simp [rd_T41, h]
theorem rdR_is (l : List S45) (i : Nat) (h : i < l.length) : rd_T45 l (i : Int) = l[i] := by simp [rd_T45, h]
theorem wup (i : Nat) (h : i ≤ 1000000) : wrap64 ((i : Int) + 1) = ((i + 1 : Nat) : Int) := by rw [w64 (by omega) (by omega)]; push_cast; rfl
theorem wdown (i : Nat) (h : i ≤ 1000000) : wrap64 (((i + 1 : Nat) : Int) - 1 - 1) = (i : Int) - 1 := by rw [w64 (by omega) (by omega)]; omega
def longAT (x : S41) : Bool := decide (200 < x.f0.size) || decide (200 < x.f2.size)
theorem longA_l (l : List S41) (hl : l.length ≤ 1000) : ∀ (d i k : Nat), i + d = l.length → d + 1 ≤ k → paymasterlaw12_Long.l0 k l (i : Int) = some ((l.drop i).any longAT)
  | 0, i, k, hi, hk => by
    obtain ⟨k, rfl⟩ : ∃ q, k = q + 1 := ⟨k - 1, by omega⟩
    rw [paymasterlaw12_Long.l0, if_neg (by omega), List.drop_eq_nil_of_le (by omega)]; rfl
  | d + 1, i, k, hi, hk => by
    obtain ⟨k, rfl⟩ : ∃ q, k = q + 1 := ⟨k - 1, by omega⟩
    have hlt : i < l.length := by omega
    rw [paymasterlaw12_Long.l0, if_pos (by omega), if_pos (by omega), rdA_is l i hlt, List.drop_eq_getElem_cons hlt, List.any_cons]
    by_cases c1 : ((l[i].f0).size : Int) > 200
    · rw [if_pos c1, show longAT l[i] = true from by unfold longAT; simp; omega]; rfl
    · by_cases c2 : ((l[i].f2).size : Int) > 200
      · rw [if_neg c1, if_pos c2, show longAT l[i] = true from by unfold longAT; simp; omega]; rfl
      · rw [if_neg c1, if_neg c2, show longAT l[i] = false from by unfold longAT; simp; omega, wup i (by omega), longA_l l hl d (i + 1) k (by omega) (by omega), Bool.false_or]
def longRT (x : S45) : Bool := decide (200 < x.f0.size)
theorem longR_l (l : List S45) (hl : l.length ≤ 1000) : ∀ (d i k : Nat), i + d = l.length → d + 1 ≤ k → paymasterlaw10_Long.l0 k l (i : Int) = some ((l.drop i).any longRT)
  | 0, i, k, hi, hk => by
    obtain ⟨k, rfl⟩ : ∃ q, k = q + 1 := ⟨k - 1, by omega⟩
    rw [paymasterlaw10_Long.l0, if_neg (by omega), List.drop_eq_nil_of_le (by omega)]; rfl
  | d + 1, i, k, hi, hk => by
    obtain ⟨k, rfl⟩ : ∃ q, k = q + 1 := ⟨k - 1, by omega⟩
    have hlt : i < l.length := by omega
    rw [paymasterlaw10_Long.l0, if_pos (by omega), if_pos (by omega), rdR_is l i hlt, List.drop_eq_getElem_cons hlt, List.any_cons]
    by_cases c1 : ((l[i].f0).size : Int) > 200
    · rw [if_pos c1, show longRT l[i] = true from by unfold longRT; simp; omega]; rfl
    · rw [if_neg c1, show longRT l[i] = false from by unfold longRT; simp; omega, wup i (by omega), longR_l l hl d (i + 1) k (by omega) (by omega), Bool.false_or]
theorem same_l (L : List S41) (hl : L.length ≤ 100000) (d : Nat) : ∀ (i k : Nat), i + d = L.length → d + 1 ≤ k → paymasterref12_Same.l0 k L L (i : Int) = some true := by
  induction d with
  | zero =>
    intro i k hi hk
    obtain ⟨k, rfl⟩ : ∃ q, k = q + 1 := ⟨k - 1, by omega⟩
    rw [paymasterref12_Same.l0, if_neg (by omega)]
  | succ d ih =>
    intro i k hi hk
    obtain ⟨k, rfl⟩ : ∃ q, k = q + 1 := ⟨k - 1, by omega⟩
    rw [paymasterref12_Same.l0, if_pos (by omega), if_pos (by omega), if_pos (by omega), wup i (by omega), ih (i + 1) k (by omega) (by omega)]
    simp
theorem same_f (L : List S41) (hl : L.length ≤ 100000) (k : Nat) (hk : L.length + 1 ≤ k) : paymasterref12_Same.f k L L = some true := by
  unfold paymasterref12_Same.f
  rw [if_pos rfl]
  exact same_l L hl L.length 0 k (by omega) hk
theorem back_l0 (m : Nat) (a0 : ByteArray) (a1 : Int) (l : List S41) (rows : List S45) (hl : l.length ≤ 1000) : ∀ (n : Nat) (acc : List S41), n ≤ l.length → acc.length + n ≤ 2000 →
    paymasterlaw12_SlotsTurned.l0 (m + n + 1) a0 a1 l rows acc ((n : Int) - 1) = paymasterlaw12_SlotsTurned.l1 m a0 a1 l rows (acc ++ (l.take n).reverse) [] (wrap64 ((rows.length : Int) - 1))
  | 0, acc, hn, ha => by
    rw [paymasterlaw12_SlotsTurned.l0, if_neg (by omega), List.take_zero, List.reverse_nil, List.append_nil]
  | n + 1, acc, hn, ha => by
    have hlt : n < l.length := by omega
    have e : ((n + 1 : Nat) : Int) - 1 = (n : Int) := by omega
    have ew : wrap64 ((n : Int) - 1) = (n : Int) - 1 := by rw [w64 (by omega) (by omega)]
    have hs : acc.length < 2513169434916 := by omega
    rw [show m + (n + 1) + 1 = (m + n + 1) + 1 by omega, paymasterlaw12_SlotsTurned.l0, e, if_pos (by omega), if_pos (by omega), if_pos (by omega), if_pos hs, rdA_is l n hlt, ew]
    have h := back_l0 m a0 a1 l rows hl n (acc ++ [l[n]]) (by omega) (by rw [List.length_append, List.length_singleton]; omega)
    refine h.trans ?_
    rw [List.take_succ_eq_append_getElem hlt, List.reverse_append, List.reverse_singleton, List.append_assoc]
theorem wor_l1 (m : Nat) (a0 : ByteArray) (a1 : Int) (l back : List S41) (rows : List S45) (hl : rows.length ≤ 1000) : ∀ (n : Nat) (acc : List S45), n ≤ rows.length → acc.length + n ≤ 2000 →
    paymasterlaw12_SlotsTurned.l1 (m + n + 1) a0 a1 l rows back acc ((n : Int) - 1) = paymasterlaw12_SlotsTurned.l1 (m + 1) a0 a1 l rows back (acc ++ (rows.take n).reverse) ((0 : Nat) - 1 : Int)
  | 0, acc, hn, ha => by
    rw [List.take_zero, List.reverse_nil, List.append_nil, Nat.add_zero]
  | n + 1, acc, hn, ha => by
    have hlt : n < rows.length := by omega
    have e : ((n + 1 : Nat) : Int) - 1 = (n : Int) := by omega
    have ew : wrap64 ((n : Int) - 1) = (n : Int) - 1 := by rw [w64 (by omega) (by omega)]
    have hs : acc.length < 4398046511104 := by omega
    rw [show m + (n + 1) + 1 = (m + n + 1) + 1 by omega, paymasterlaw12_SlotsTurned.l1, e, if_pos (by omega), if_pos (by omega), if_pos (by omega), if_pos hs, rdR_is rows n hlt, ew]
    have h := wor_l1 m a0 a1 l back rows hl n (acc ++ [rows[n]]) (by omega) (by rw [List.length_append, List.length_singleton]; omega)
    refine h.trans ?_
    rw [List.take_succ_eq_append_getElem hlt, List.reverse_append, List.reverse_singleton, List.append_assoc]
theorem stay_len (was : List S41) (rows : List S45) : (stayL was rows).length ≤ rows.length := stayL_len was rows
theorem turned_pure (a0 : ByteArray) (a1 : Int) (l : List S41) (rows : List S45) (hw : ∀ x, x ∈ l → (Lit.int .u64 x.f3).wf = true) : ∃ k, paymasterlaw12_SlotsTurned.f k a0 a1 l rows = some true := by
  obtain ⟨K, hK⟩ : ∃ K : Nat, 200000 ≤ K := ⟨200000, Nat.le_refl _⟩
  refine ⟨K + 1, ?_⟩
  unfold paymasterlaw12_SlotsTurned.f paymasterlaw12_awake.f
  rw [Option.bind_some, if_pos rfl]
  have hj : paymasterlaw12_SlotsTurned.j0 (K + 1) a0 a1 l rows true = some true := by rw [paymasterlaw12_SlotsTurned.j0, if_pos rfl]
  by_cases c : (a0.size : Int) > 64
  · rw [if_pos c, hj]
  rw [if_neg c]
  unfold paymasterlaw12_Long.f
  by_cases c2 : (l.length : Int) > 200
  · rw [if_pos c2, Option.bind_some, if_pos rfl, hj]
  rw [if_neg c2]
  have hLo := longA_l l (by omega) l.length 0 (K + 1) (by omega) (by omega)
  rw [List.drop_zero, show ((0 : Nat) : Int) = 0 from rfl] at hLo
  rw [hLo, Option.bind_some]
  cases hb : l.any longAT with
  | true => rw [if_pos rfl, hj]
  | false =>
    rw [if_neg (by simp)]
    unfold paymasterlaw10_Long.f
    by_cases c3 : (rows.length : Int) > 200
    · rw [if_pos c3, Option.bind_some, hj]
    rw [if_neg c3]
    have hRo := longR_l rows (by omega) rows.length 0 (K + 1) (by omega) (by omega)
    rw [List.drop_zero, show ((0 : Nat) : Int) = 0 from rfl] at hRo
    rw [hRo, Option.bind_some]
    cases hb2 : rows.any longRT with
    | true => rw [hj]
    | false =>
      rw [paymasterlaw12_SlotsTurned.j0, if_neg (by simp)]
      have hsz : ∀ x, x ∈ l → x.f0.size ≤ 1000 := by
        intro x hx
        have := List.any_eq_false.1 hb x hx
        unfold longAT at this
        simp at this
        omega
      have hsr : ∀ x, x ∈ rows → x.f0.size ≤ 1000 := by
        intro x hx
        have := List.any_eq_false.1 hb2 x hx
        unfold longRT at this
        simp at this
        omega
      have ew1 : wrap64 ((l.length : Int) - 1) = (l.length : Int) - 1 := by rw [w64 (by omega) (by omega)]
      have ew2 : wrap64 ((rows.length : Int) - 1) = (rows.length : Int) - 1 := by rw [w64 (by omega) (by omega)]
      obtain ⟨m, rfl⟩ : ∃ m, K = ((m + 1) + rows.length + 1) + l.length + 1 := ⟨K - rows.length - l.length - 3, by omega⟩
      have h1 := back_l0 ((m + 1) + rows.length + 1) a0 a1 l rows (by omega) l.length [] (Nat.le_refl _) (by simp; omega)
      have h2 := wor_l1 (m + 1) a0 a1 l l.reverse rows (by omega) rows.length [] (Nat.le_refl _) (by simp; omega)
      rw [List.take_length, List.nil_append] at h1 h2
      rw [ew1, h1, ew2, h2, paymasterlaw12_SlotsTurned.l1, if_neg (by omega), place_turned]
      have hc : l.length ≤ 100000 ∧ (∀ x, x ∈ l → x.f0.size ≤ 1000) ∧ (∀ x, x ∈ l → (Lit.int .u64 x.f3).wf = true) ∧ rows.length ≤ 300 ∧ (∀ x, x ∈ rows → x.f0.size ≤ 1000) := ⟨by omega, hsz, hw, by omega, hsr⟩
      obtain ⟨p, hp, hpl⟩ : ∃ p, slots_Place.f a0 a1 l rows = some p ∧ p.1.length ≤ 1000 := by
        unfold slots_Place.f
        rw [if_pos hc]
        refine ⟨_, rfl, ?_⟩
        split
        · simp
        · split
          · simp
          · split
            · simp
            · split
              · simp
              · show (accSort _).length ≤ 1000
                rw [(accSort_sorts _).1, placeL_len]
                have q1 := stayL_len l rows
                have q2 := comingL_len l (insSort rowKey rows)
                have q3 := (insSort_sorts rowKey rows).1
                omega
      rw [hp, Option.bind_some, Option.bind_some, same_f p.1 (by omega) _ (by omega), Option.bind_some, if_pos rfl]
      simp
end Go.Proofs.YtfijhbfdkcajjaaGreatDoor.Pr
