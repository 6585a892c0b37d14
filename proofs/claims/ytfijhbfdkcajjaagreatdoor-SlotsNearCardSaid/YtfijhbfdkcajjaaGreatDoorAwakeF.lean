/- awake answers true; awake in the print's form. -/
import Derived.Test.YtfijhbfdkcajjaaGreatDoorAwake
namespace Go.Proofs.YtfijhbfdkcajjaaGreatDoor.Pr
open Go.RowKit Go.SortKey
set_option linter.unusedVariables false
set_option linter.unusedSimpArgs false
abbrev bK : ByteArray := ⟨#[107]⟩
abbrev bA : ByteArray := ⟨#[97]⟩
abbrev bB : ByteArray := ⟨#[98]⟩
abbrev rA : S45 := ⟨bA, ⟨0, 5⟩⟩
abbrev rB : S45 := ⟨bB, ⟨0, 0⟩⟩
abbrev aW : S41 := ⟨bA, ⟨0, 0⟩, ⟨#[115]⟩, 3⟩
abbrev aS : S41 := ⟨bA, ⟨0, 5⟩, ⟨#[115]⟩, 3⟩
theorem byId : mayIdB bA = true ∧ mayIdB bB = true := by decide
theorem insA : insSort rowKey [rA] = [rA] := List.perm_singleton.1 (insSort_sorts rowKey [rA]).2.1
theorem tlA : bA.toList = [97] := ByteArray.toList_eq _
theorem tlB : bB.toList = [98] := ByteArray.toList_eq _
theorem ordAB {α : Type} (key : α → ByteArray) (x y : α) (hx : key x = bA) (hy : key y = bB) : Ordered key [x, y] := by
  refine List.Pairwise.cons (fun z hz => ?_) (List.Pairwise.cons (fun z hz => (by cases hz)) List.Pairwise.nil)
  rw [List.mem_singleton] at hz
  subst hz
  rw [hx, hy, tlA, tlB]
  rfl
theorem keyAB {α : Type} (key : α → ByteArray) (x y : α) (hx : key x = bA) (hy : key y = bB) : ∀ a, a ∈ [x, y] → ∀ b, b ∈ [x, y] → (key a).toList = (key b).toList → a = b := by
  intro a ha b hb he
  have hne : ¬ (bA.toList = bB.toList) := by rw [tlA, tlB]; decide
  simp only [List.mem_cons, List.not_mem_nil, or_false] at ha hb
  rcases ha with rfl | rfl <;> rcases hb with rfl | rfl
  · rfl
  · rw [hx, hy] at he; exact absurd he hne
  · rw [hx, hy] at he; exact absurd he.symm hne
  · rfl
theorem insAB : insSort rowKey [rA, rB] = [rA, rB] := ordered_unique rowKey _ _ (insSort_sorts rowKey [rA, rB]).2.1 (insSort_sorts rowKey [rA, rB]).2.2 (ordAB rowKey rA rB rfl rfl) (by
  intro a ha b hb
  have hp := (insSort_sorts rowKey [rA, rB]).2.1
  exact keyAB rowKey rA rB rfl rfl a (hp.mem_iff.1 ha) b (hp.mem_iff.1 hb))
theorem rowedA : rowedFrom [rA] 1 0 = true := by decide
theorem rowedAB : rowedFrom [rA, rB] 2 0 = true := by decide
theorem mayW : mayFrom 4 [aW] 1 0 = true := by decide
abbrev saltOf (id : ByteArray) : ByteArray := (Sh.macOf bK (Sh.one1 3 ++ id)).extract 0 16
theorem place1 : slots_Place.f bK 0 [] [rA] = some ([⟨bA, ⟨0, 5⟩, saltOf bA, 0⟩], 0) := by
  unfold slots_Place.f
  rw [if_pos (by refine ⟨by simp, by simp, by simp, by simp, by simp; decide⟩)]
  rw [if_neg (by decide), if_neg (by decide), if_neg (by rw [show ([rA] : List S45).length = 1 from rfl, rowedA]; simp [mayFrom]), if_neg (by decide), insA]
  have e : placeL bK (0 : Int).toNat [] [rA] (comingL [] [rA]) = [⟨bA, ⟨0, 5⟩, saltOf bA, 0⟩] := by
    show placeStep bK 0 [] rA = _
    unfold placeStep slotOf
    simp [freeFrom, isFree, Nat.mod_one]
  rw [e, List.perm_singleton.1 (accSort_sorts [(⟨bA, ⟨0, 5⟩, saltOf bA, 0⟩ : S41)]).2.1]
theorem place2 : slots_Place.f bK 0 [] [rA, rB] = some ([], 111) := by
  unfold slots_Place.f
  rw [if_pos (by refine ⟨by simp, by simp, by simp, by simp, by simp; decide⟩)]
  rw [if_neg (by decide), if_neg (by decide), if_neg (by rw [show ([rA, rB] : List S45).length = 2 from rfl, rowedAB]; simp [mayFrom]), if_pos (by decide)]
theorem place4 : slots_Place.f bK 11 [] [rA] = some ([], 120) := by
  unfold slots_Place.f
  rw [if_pos (by refine ⟨by simp, by simp, by simp, by simp, by simp; decide⟩)]
  rw [if_pos (by decide)]
theorem slotB : ∀ r : Nat, r < 4 → 0 ≤ (freeFrom (isFree [aS]) 4 (r : Int) 4 0).1 ∧ (freeFrom (isFree [aS]) 4 (r : Int) 4 0).1 < 3 := by decide
theorem hadA : hadB [aW] rA = true := by simp [hadB, isId]
theorem hadBB : hadB [aW] rB = false := by
  unfold hadB
  rw [List.find?_cons_of_neg (by unfold isId; rw [tlA, tlB]; decide)]
  rfl
theorem comingAB : comingL [aW] [rA, rB] = [rB] := by
  unfold comingL
  rw [List.filter_cons, hadA, if_neg (by decide), List.filter_cons, hadBB, if_pos (by decide), List.filter_nil]
theorem stayAB : stayL [aW] [rA, rB] = [aS] := by
  unfold stayL
  rw [List.filterMap_cons, List.find?_cons_of_pos (by unfold isId; exact beq_self_eq_true _)]
  show aS :: List.filterMap _ [rB] = [aS]
  rw [List.filterMap_cons, List.find?_cons_of_neg (by unfold isId; rw [tlA, tlB]; decide)]
  rfl
theorem stepB (s : ByteArray) : placeStep s 2 [aS] rB = [aS, ⟨bB, ⟨0, 0⟩, (Sh.macOf s (Sh.one1 3 ++ bB)).extract 0 16, slotOf s 2 [aS] bB⟩] := by
  unfold placeStep
  rw [List.cons_append, List.nil_append]
theorem slotB3 : 0 ≤ slotOf bK 2 [aS] bB ∧ slotOf bK 2 [aS] bB < 3 := by
  have e4 : (2 : Nat) ^ 2 = 4 := rfl
  unfold slotOf
  rw [e4]
  generalize Sh.numOf bK (Sh.one1 5 ++ bB) = n
  exact slotB (n % 4) (Nat.mod_lt _ (by decide))
theorem place3 : ∃ s : Int, 0 ≤ s ∧ s < 3 ∧ slots_Place.f bK 2 [aW] [rA, rB] = some ([aS, ⟨bB, ⟨0, 0⟩, saltOf bB, s⟩], 0) := by
  refine ⟨slotOf bK 2 [aS] bB, slotB3.1, slotB3.2, ?_⟩
  unfold slots_Place.f
  rw [if_pos (by refine ⟨by simp, by simp; decide, by simp; decide, by simp, by simp; decide⟩)]
  rw [if_neg (by decide), if_neg (by decide), if_neg (by rw [show ([rA, rB] : List S45).length = 2 from rfl, rowedAB, show ([aW] : List S41).length = 1 from rfl]; have := mayW; simpa using this), if_neg (by decide), insAB, comingAB]
  have e : placeL bK (2 : Int).toNat [aW] [rA, rB] [rB] = [aS, ⟨bB, ⟨0, 0⟩, saltOf bB, slotOf bK 2 [aS] bB⟩] := by
    unfold placeL
    rw [stayAB, List.foldl_cons, List.foldl_nil, show (2 : Int).toNat = 2 from rfl, stepB]
  rw [e]
  congr 2
  generalize slotOf bK 2 [aS] bB = s
  generalize saltOf bB = z
  refine ordered_unique accKey _ _ (accSort_sorts _).2.1 (accSort_sorts _).2.2 (ordAB accKey _ _ rfl rfl) ?_
  intro a ha b hb
  have hp := (accSort_sorts [aS, (⟨bB, ⟨0, 0⟩, z, s⟩ : S41)]).2.1
  exact keyAB accKey _ _ rfl rfl a (hp.mem_iff.1 ha) b (hp.mem_iff.1 hb)
theorem free5 : slots_Free.f [⟨⟨#[]⟩, ⟨0, 0⟩, ⟨#[]⟩, 3⟩, ⟨⟨#[]⟩, ⟨0, 0⟩, ⟨#[]⟩, 0⟩] 2 3 = some (1, true) := by
  unfold slots_Free.f
  rw [if_pos (by refine ⟨by simp, by simp, by simp; decide⟩)]
  decide
theorem saltA : tag_Salt.f bK bA = some (saltOf bA) := by
  unfold tag_Salt.f
  rw [if_pos (by decide)]
theorem awake0_true : awake0.f = some true := by
  obtain ⟨s, h0, h3, hp3⟩ := place3
  unfold awake0.f u128_Of.f
  simp only [Option.bind_some, List.nil_append, List.length_nil, List.length_cons, List.cons_append]
  rw [if_pos (by decide), if_pos (by decide)]
  rw [show slots_Place.f ⟨#[107]⟩ 0 [] [⟨⟨#[97]⟩, ⟨0, 5⟩⟩] = _ from place1, Option.bind_some]
  rw [show slots_Place.f ⟨#[107]⟩ 0 [] [⟨⟨#[97]⟩, ⟨0, 5⟩⟩, ⟨⟨#[98]⟩, ⟨0, 0⟩⟩] = _ from place2, Option.bind_some]
  rw [show slots_Place.f ⟨#[107]⟩ 2 [⟨⟨#[97]⟩, ⟨0, 0⟩, ⟨#[115]⟩, 3⟩] [⟨⟨#[97]⟩, ⟨0, 5⟩⟩, ⟨⟨#[98]⟩, ⟨0, 0⟩⟩] = _ from hp3, Option.bind_some]
  rw [show slots_Place.f ⟨#[107]⟩ 11 [] [⟨⟨#[97]⟩, ⟨0, 5⟩⟩] = _ from place4, Option.bind_some]
  rw [free5, Option.bind_some]
  rw [show tag_Salt.f ⟨#[107]⟩ ⟨#[97]⟩ = _ from saltA, Option.bind_some]
  simp [rd_T41, h3]
def paymasterlaw12_awake.f : Option Bool := some true
theorem paymasterlaw12_awake.calls (r : Bool) (w : World) (hGT : GTab w) (h : paymasterlaw12_awake.f = some r) : Calls Tryz.prog 14 #[] w fun e w' => e = .returned (.bool r) ∧ Below w.heap.size w w' := by
  cases h
  exact awake0.calls true w hGT awake0_true rfl
end Go.Proofs.YtfijhbfdkcajjaaGreatDoor.Pr
