/- The contract of slices.SortFunc at accounts, by their Ids. -/
import Derived.Test.YtfijhbfdkcajjaaGreatDoorShA2
import Derived.Test.YtfijhbfdkcajjaaGreatDoorRSort
import Derived.Test.YtfijhbfdkcajjaaGreatDoorFinds
namespace Go.Proofs.YtfijhbfdkcajjaaGreatDoor.Pr
open Go.RowKit Go.Proofs.YtfijhbfdkcajjaaGreatDoorW.PrintWords Go.Proofs.YtfijhbfdkcajjaaGreatDoorW.PrintLast Go.Proofs.YtfijhbfdkcajjaaGreatDoorW.PrintMore Go.SortKey Go.Shelf Go.Sort Go.Lib
set_option linter.unusedVariables false
set_option linter.unusedSimpArgs false
def accKey (x : S41) : ByteArray := x.f0
theorem encA_one5 (x : S41) : ∀ v ∈ encA x, v.oneCell' = true := by intro v hv; simp [encA] at hv; rcases hv with rfl | rfl | rfl | rfl | rfl <;> rfl
set_option maxHeartbeats 1000000 in
theorem accCmp_calls (x y : S41) (W : World) : Calls Tryz.prog 31 #[.agg #[.string x.f0, .int .u64 x.f1.f0, .int .u64 x.f1.f1, .string x.f2, .int .u64 x.f3], .agg #[.string y.f0, .int .u64 y.f1.f0, .int .u64 y.f1.f1, .string y.f2, .int .u64 y.f3]] W fun e w' => e = .returned (.int .i64 (keyCmp accKey x y)) ∧ ∃ q os', w' = Go.Sort.grow (W.drewN q) os' := by
  have hcon := fun W' => cmpS_calls x.f0 y.f0 W'
  have e : keyCmp accKey x y = cmpI x.f0 y.f0 := rfl
  rw [e]
  generalize cmpI x.f0 y.f0 = r at hcon ⊢
  go_enter Tryz.func31, Tryz.ntmps31
  go_wp2_with (go_at_call 32; refine (hcon _).mono ?_; rintro e w' ⟨rfl, rfl⟩)
  go_ret
  exact ⟨rfl, 0, _, by rw [Go.Sort.alloc_eq_grow, Go.Sort.alloc_eq_grow, Go.Sort.grow_grow]; rfl⟩
/-- The accounts, sorted. -/
def accSort (l : List S41) : List S41 := (Go.Sort.pdq (ltOf (keyCmp accKey)) l.toArray 0 l.length (Lib.bitLen l.length) true true).toList
theorem accSort_sorts (l : List S41) : (accSort l).length = l.length ∧ (accSort l).Perm l ∧ Ordered accKey (accSort l) := by
  have h := Go.Sort.pdq_sorts (ltOf (keyCmp accKey)) (swoKey accKey) l.toArray 0 l.length (Lib.bitLen l.length) true true (Nat.zero_le _) (by simp) (Or.inl rfl)
  obtain ⟨hp, hs⟩ := h
  have e0 : (Go.Sort.pdq (ltOf (keyCmp accKey)) l.toArray 0 l.length (Lib.bitLen l.length) true true) = (accSort l).toArray := by simp [accSort]
  rw [e0] at hp hs
  have hlen : (accSort l).length = l.length := by simpa using hp.1
  obtain ⟨a, b⟩ := ordered_of accKey l (accSort l) hlen hp hs
  exact ⟨hlen, a, b⟩
theorem accHolds_reads {W : World} {g : Nat} {l : List S41} (hn : l.length ≤ 100000) (h : HoldsK encA 5 W g 0 l.toArray) : Kd.C k41 W (some ⟨g, 0, none⟩) l.length l := by
  refine ⟨rfl, by omega, fun _ => ⟨_, rfl, fun j p hp => ⟨encA p, rfl, k41_mk W p, fun i u hu => ?_⟩⟩⟩
  obtain ⟨hj, hjp⟩ := List.getElem?_eq_some_iff.1 hp
  have hi : i < 5 := by have := (List.getElem?_eq_some_iff.1 hu).1; simpa [encA] using this
  have ht : j * 5 + i < l.toArray.size * 5 := by rw [List.size_toArray]; omega
  have hc := (h (j * 5 + i) (by rw [size_flatK]; exact ht)).1
  rw [get_flatK encA 5 l.toArray _ ht, show (j * 5 + i) / 5 = j by omega, show (j * 5 + i) % 5 = i by omega, getElem!_pos l.toArray j (by simpa using hj)] at hc
  have e : (encA p)[i]! = u := by
    rw [getElem!_pos (encA p) i (by rw [encA_len]; exact hi)]
    exact (List.getElem?_eq_some_iff.1 hu).2
  have e2 : l.toArray[j]'(by simpa using hj) = p := by simpa using hjp
  rw [e2, e, Nat.zero_add] at hc
  show W.cell? ((⟨g, 0, none⟩ : Addr).add (j * 5 + i)) = some u
  rw [add_plain]
  exact hc
theorem acc_cells {W : World} {A : Option Addr} {l : List S41} (h : Kd.C k41 W A l.length l) : ∀ j, j < l.length * 5 → ∃ ad, A = some ad ∧ W.cell? (ad.add j) = some ((flatK encA 5 l.toArray)[j]!) := by
  intro j hj
  obtain ⟨ad, hA, hcell⟩ := h.2.2 (by omega)
  refine ⟨ad, hA, ?_⟩
  have hq : j / 5 < l.length := by omega
  obtain ⟨c, hcl, hR, hcc⟩ := hcell (j / 5) l[j / 5] (by simp [hq])
  obtain rfl := k41_open hR
  rw [get_flatK encA 5 l.toArray j (by simpa using hj), getElem!_pos l.toArray (j / 5) (by simpa using hq)]
  have e2 : l.toArray[j / 5]'(by simpa using hq) = l[j / 5] := by simp
  rw [e2]
  have hr : j % 5 < (encA l[j / 5]).length := by rw [encA_len]; omega
  rw [getElem!_pos (encA l[j / 5]) (j % 5) hr]
  have := hcc (j % 5) _ (List.getElem?_eq_getElem hr)
  have e3 : j / 5 * k41.sz + j % 5 = j := by show j / 5 * 5 + j % 5 = j; omega
  rwa [e3] at this
/-- A row of the call's own is held, cell for cell. -/
theorem accR_holds {W : World} {base : Nat} {ok : Nat → Prop} {A : Option Addr} {n c : Nat} {l : List S41} (h : Kd.R k41 41 W base ok (.slice A n c) l) : (A = none ∧ l = []) ∨ ∃ g, A = some ⟨g, 0, none⟩ ∧ g < W.heap.size ∧ HoldsK encA 5 W g 0 l.toArray := by
  obtain ⟨inner, hown⟩ := Kd.R_own h
  have hC := (Kd.R_reads' h).2.2
  rcases hown.2 with ⟨hv, hn⟩ | ⟨g, cap, cur, hv, hbg, hg, hnc, hm, hcs, htake⟩
  · injection hv with h1 h2 h3
    exact .inl ⟨h1, List.eq_nil_of_length_eq_zero hn⟩
  · injection hv with h1 h2 h3
    subst h1
    refine .inr ⟨g, rfl, blk_lt hg, fun j hj => ?_⟩
    rw [size_flatK, List.size_toArray] at hj
    obtain ⟨ad, e, hc⟩ := acc_cells hC j hj
    cases e
    rw [add_plain] at hc
    rw [Nat.zero_add]
    exact ⟨hc, blk_frozen hg j⟩
/-- A row whose block is known, out of its cells. -/
theorem accR_of {W : World} {base g cap : Nat} {ok : Nat → Prop} {cur : Array Value} {l : List S41} (hC : Kd.C k41 W (some ⟨g, 0, none⟩) l.length l) (hg : W.heap[g]? = some (.cells cur 41 (0, 0))) (hn : l.length ≤ cap) (hm : cap ≤ maxLen) (hs : cur.size = cap * 5) (hb : base ≤ g) (hok : ok g) :
    Kd.R k41 41 W base ok (.slice (some ⟨g, 0, none⟩) l.length cap) l := by
  have hlen : (cur.toList.take (l.length * 5)).length = l.length * 5 := by
    have e1 : cur.toList.length = cur.size := Array.length_toList
    rw [List.length_take, e1, hs]
    exact Nat.min_eq_left (Nat.mul_le_mul_right _ hn)
  refine ⟨fun k hk => by cases hk; exact hok, cur.toList.take (l.length * 5), ⟨hlen, .inr ⟨g, cap, cur, rfl, hb, hg, hn, hm, hs, rfl⟩⟩, hlen, fun j p hj => ?_⟩
  obtain ⟨hjl, hjp⟩ := List.getElem?_eq_some_iff.1 hj
  obtain ⟨ad, e, hc⟩ := hC.2.2 (by omega)
  cases e
  obtain ⟨cs, hcl, hR, hcell⟩ := hc j p hj
  obtain rfl := k41_open hR
  have e : (List.take k41.sz (List.drop (j * k41.sz) (cur.toList.take (l.length * 5)))) = encA p := by
    apply List.ext_getElem?
    intro i
    have hsz : k41.sz = 5 := rfl
    rw [hsz]
    by_cases hi : i < 5
    · rw [List.getElem?_take_of_lt hi, List.getElem?_drop, List.getElem?_take_of_lt (by omega)]
      have e2 : cur.toList[j * 5 + i]? = cur[j * 5 + i]? := Array.getElem?_toList
      rw [e2]
      have h1 := hcell i ((encA p)[i]'(by rw [encA_len]; exact hi)) (List.getElem?_eq_getElem (by show i < (encA p).length; rw [encA_len]; exact hi))
      rw [hsz, add_plain] at h1
      rw [List.getElem?_eq_getElem (by rw [encA_len]; exact hi)]
      rw [← h1]
      show _ = (match W.heap[g]? with | some (.cells cells _ _) => cells[j * 5 + i]? | _ => none)
      rw [hg]
    · rw [List.getElem?_eq_none (by rw [List.length_take]; omega), List.getElem?_eq_none (by rw [encA_len]; omega)]
  rw [e]
  exact k41_mkM _ _ _ p
/-- The sort leaves a row of one's own one. -/
theorem accR_sorted {W : World} {base c : Nat} {ok : Nat → Prop} {g m : Nat} {os : Array Obj} {l l' : List S41} (h : Kd.R k41 41 W base ok (.slice (some ⟨g, 0, none⟩) l.length c) l) (hl : l'.length = l.length)
    (hC : Kd.C k41 (sortWorldK encA 5 W g 0 m l'.toArray os) (some ⟨g, 0, none⟩) l.length l') : Kd.R k41 41 (sortWorldK encA 5 W g 0 m l'.toArray os) base ok (.slice (some ⟨g, 0, none⟩) l.length c) l' := by
  obtain ⟨h0, inner, hown, _⟩ := h
  rcases hown.2 with ⟨hv, _⟩ | ⟨g', cap, cur, hv, hbg, hg, hnc, hm, hcs, _⟩
  · cases hv
  · injection hv with h1 h2 h3
    injection h1 with h1
    injection h1 with h1
    subst h1 h3
    rw [← hl] at hC hnc ⊢
    refine accR_of (cur := Go.Sort.putCells id 0 (flatK encA 5 l'.toArray) cur) hC ?_ hnc hm ?_ hbg (h0 g rfl)
    · show ((W.heap.modify g _) ++ os)[g]? = _
      have hlt := blk_lt hg
      rw [Array.getElem?_append_left (by rw [Array.size_modify]; exact hlt), Array.getElem?_modify, if_pos rfl, hg]
      rfl
    · simp [Go.Sort.putCells, hcs]; rfl
set_option maxHeartbeats 4000000 in
theorem accSort_calls (A : Option Addr) (c : Nat) (l : List S41) (base : Nat) (ok : Nat → Prop) (W : World) (hr : Kd.R k41 41 W base ok (.slice A l.length c) l) (hn : l.length ≤ 100000) :
    Calls Tryz.prog 30 #[.slice A l.length c, .func (.func 31) #[] #[]] W fun e w' => e = .returned (.tuple #[]) ∧ Kd.R k41 41 w' base ok (.slice A l.length c) (accSort l) ∧ (∀ B, B ≤ W.heap.size → (∀ k, (Value.slice A l.length c).ownBlock = some k → B ≤ k) → Below B W w') ∧ ∀ k, k < W.heap.size → some k ≠ (Value.slice A l.length c).ownBlock → w'.heap[k]? = W.heap[k]? := by
  obtain ⟨hs1, _, _⟩ := accSort_sorts l
  rcases accR_holds hr with ⟨rfl, rfl⟩ | ⟨g, rfl, hg, hH⟩
  · have hcon := AnyF.slices_SortFunc_none Tryz.sortAcc none c (.func (.func 31) #[] #[]) W
    have e : accSort [] = [] := List.length_eq_zero_iff.1 hs1
    rw [e]
    exact hcon.mono fun e w' ⟨he, hw⟩ => ⟨he, by rw [hw]; exact hr, fun B _ _ => by rw [hw]; exact Below.refl _ _, fun k _ _ => by rw [hw]⟩
  · have eg : ∀ args w, (callFunc 31 args).run Tryz.prog w = .ok (.enter 31 args) w := enters_of Tryz.func31 (by kernel_rfl) rfl
    have hcon := AnyQ.slices_SortFunc_eq Tryz.sortAcc 5 Tryz.isAgg41 Tryz.sizeOf41 encA encA_len encA_one5 (keyCmp accKey) (swoKey accKey) 31 #[] g 0 c l.toArray W eg (fun m os dk _ x y => accCmp_calls x y _) hH hg (by simp; omega)
    have es : l.toArray.size = l.length := by simp
    rw [es] at hcon
    refine hcon.mono fun e w' ⟨he, n, os, hw⟩ => ⟨he, ?_, ?_, ?_⟩
    · have e0 : (Go.Sort.pdq (ltOf (keyCmp accKey)) l.toArray 0 l.length (Lib.bitLen l.length) true true) = (accSort l).toArray := by simp [accSort]
      rw [e0] at hw
      have hh := holdsK_sortWorldK_c encA 5 W g 0 l.toArray (accSort l).toArray n os hH hg (by simpa using hs1)
      rw [← hw] at hh
      have := accHolds_reads (by omega) hh
      rw [hs1] at this
      rw [hw] at this ⊢
      exact accR_sorted hr hs1 this
    · intro B hB hown
      have hBg := hown g rfl
      rw [hw]
      refine ⟨rfl, rfl, rfl, ?_, fun k hk => ?_⟩
      · show W.heap.size ≤ ((W.heap.modify g _) ++ os).size
        rw [Array.size_append, Array.size_modify]; omega
      · show ((W.heap.modify g _) ++ os)[k]? = W.heap[k]?
        rw [Array.getElem?_append_left (by rw [Array.size_modify]; omega), Array.getElem?_modify, if_neg (by omega)]
    · intro k hk hne
      rw [hw]
      show ((W.heap.modify g _) ++ os)[k]? = W.heap[k]?
      have hkg : g ≠ k := fun e => hne (by rw [e]; rfl)
      rw [Array.getElem?_append_left (by rw [Array.size_modify]; omega), Array.getElem?_modify, if_neg hkg]
end Go.Proofs.YtfijhbfdkcajjaaGreatDoor.Pr
