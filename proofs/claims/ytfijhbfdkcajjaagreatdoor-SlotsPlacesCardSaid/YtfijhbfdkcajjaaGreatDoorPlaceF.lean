/- slots.Place in the print's form (fewer than twenty rows). -/
import Derived.Test.YtfijhbfdkcajjaaGreatDoorPlace
namespace Go.Proofs.YtfijhbfdkcajjaaGreatDoor.Pr
open Go.RowKit Go.Proofs.YtfijhbfdkcajjaaGreatDoorW.PrintWords Go.Proofs.YtfijhbfdkcajjaaGreatDoorW.PrintLast Go.Proofs.YtfijhbfdkcajjaaGreatDoorW.PrintMore Go.IterLaw Go.SortKey
set_option linter.unusedVariables false
set_option linter.unusedSimpArgs false
theorem rowed_ok (l : List S45) : ∀ (d i : Nat), rowedFrom l d i = true → ∀ j, i ≤ j → j < i + d → okRow l j = true
  | 0, i, h, j, h1, h2 => by omega
  | d + 1, i, h, j, h1, h2 => by
    rw [rowedFrom, Bool.and_eq_true] at h
    rcases Nat.eq_or_lt_of_le h1 with rfl | h3
    · exact h.1
    · exact rowed_ok l d (i + 1) h.2 j h3 (by omega)
theorem rowed_unlike (l : List S45) (h : rowedFrom l l.length 0 = true) : ∀ x, x ∈ l → ∀ y, y ∈ l → (rowKey x).toList = (rowKey y).toList → x = y := by
  have hne : ∀ (i j : Nat) (hj : j < l.length) (hij : i < j), (l[i]).f0 ≠ (l[j]).f0 := fun i j hj hij he => by
    have hk := rowed_ok l l.length 0 h j (by omega) (by omega)
    unfold okRow at hk
    rw [List.getElem?_eq_getElem hj] at hk
    simp only [Bool.and_eq_true, Bool.not_eq_true', List.any_eq_false, decide_eq_true_eq] at hk
    exact hk.2 l[i] (List.mem_take_iff_getElem.2 ⟨i, by omega, rfl⟩) he
  intro x hx y hy he
  have he2 : x.f0 = y.f0 := byteArray_inj (by rw [ByteArray.toList_eq, ByteArray.toList_eq] at he; exact he)
  obtain ⟨i, hi, rfl⟩ := List.getElem_of_mem hx
  obtain ⟨j, hj, rfl⟩ := List.getElem_of_mem hy
  rcases Nat.lt_trichotomy i j with h1 | h1 | h1
  · exact absurd he2 (hne i j hj h1)
  · subst h1; rfl
  · exact absurd he2.symm (hne j i hi h1)
theorem place_high (seed : ByteArray) (h : Int) (A2 : Option Addr) (n2 c2 : Nat) (A3 : Option Addr) (n3 c3 : Nat) (w : World) (hh : ¬ (0 ≤ h ∧ h ≤ 10)) :
    Calls Tryz.prog 10 #[.string seed, .int .i64 h, .slice A2 n2 c2, .slice A3 n3 c3] w fun e w' => e = .returned (.tuple #[.slice none 0 0, .int .i64 120]) ∧ Below w.heap.size w w' := by
  have HH : Aside0 (∀ W, Calls Tryz.prog 25 #[.int .i64 h] W fun e w' => e = .returned (.bool false) ∧ Drawn0 W w') := ⟨fun W => slots_high.calls h false W (by
    unfold slots_high.f
    by_cases h0 : 0 ≤ h
    · rw [if_pos h0]; congr 1; exact decide_eq_false (by omega)
    · rw [if_neg h0])⟩
  go_enter Tryz.func10, Tryz.ntmps10
  go_wp2_with fail
  refine (HH.out _).mono ?_
  rintro e w1 ⟨rfl, ⟨n1, rfl⟩⟩
  go_wp2_with fail
  (try simp only [Exit.inBlock, Exit.then]); refine bodyPost_ret (results_tmp2 rfl _ _ _) rfl ?_
  exact ⟨rfl, pw_below_drewN (((Below.refl _ _).alloc (Nat.le_refl _) _).alloc (by simp) _) n1⟩
theorem place_long (seed : ByteArray) (h : Int) (A2 : Option Addr) (n2 c2 : Nat) (A3 : Option Addr) (n3 c3 : Nat) (w : World) (hh : 0 ≤ h ∧ h ≤ 10) (hs : 64 < seed.size) :
    Calls Tryz.prog 10 #[.string seed, .int .i64 h, .slice A2 n2 c2, .slice A3 n3 c3] w fun e w' => e = .returned (.tuple #[.slice none 0 0, .int .i64 3]) ∧ Below w.heap.size w w' := by
  have HH : Aside0 (∀ W, Calls Tryz.prog 25 #[.int .i64 h] W fun e w' => e = .returned (.bool true) ∧ Drawn0 W w') := ⟨fun W => slots_high.calls h true W (by unfold slots_high.f; rw [if_pos (by omega)]; congr 1; exact decide_eq_true (by omega))⟩
  have c64 : decide ((64 : Int) < (seed.size : Int)) = true := decide_eq_true (by omega)
  have c64' : ((64 : Int) < (seed.size : Int)) := by omega
  go_enter Tryz.func10, Tryz.ntmps10
  go_wp2_with fail
  refine (HH.out _).mono ?_
  rintro e w1 ⟨rfl, ⟨n1, rfl⟩⟩
  have HE0 : Aside0 ((((w.alloc (.cells #[.string seed] 9)).alloc (.cells #[.int .i64 (h : Int)] 3)).drewN n1).heap[w.heap.size]? = some (.cells #[.string seed] 9 (0, 0))) := ⟨(Below.heap_alloc _ _ _ (by simp)).trans (blk_new w _)⟩
  have e0 : (((w.alloc (.cells #[.string seed] 9)).alloc (.cells #[.int .i64 (h : Int)] 3)).drewN n1).cell? ⟨w.heap.size, 0, none⟩ = some (.string seed) := blk_cell HE0.out 0
  have HB1 : Aside0 (Below w.heap.size w (((w.alloc (.cells #[.string seed] 9)).alloc (.cells #[.int .i64 (h : Int)] 3)).drewN n1)) := ⟨pw_below_drewN (((Below.refl _ _).alloc (Nat.le_refl _) _).alloc (by simp) _) n1⟩
  generalize ((w.alloc (.cells #[.string seed] 9)).alloc (.cells #[.int .i64 (h : Int)] 3)).drewN n1 = w1 at e0 HB1 ⊢
  clear HE0
  go_wp2_with fail
  (try simp only [Exit.inBlock, Exit.then]); refine bodyPost_ret (results_tmp2 rfl _ _ _) rfl ?_
  exact ⟨rfl, HB1.out⟩
set_option maxHeartbeats 4000000 in
/-- The prefix up to the accounts and rows, at either answer. -/
theorem place_arg (seed : ByteArray) (h : Int) (was : List S41) (rows : List S45) (Aw : Option Addr) (cw : Nat) (Ar : Option Addr) (cr : Nat) (w : World) (hGT : GTab w) (hh : 0 ≤ h ∧ h ≤ 10) (hs : seed.size ≤ 64)
    (hw : Kd.C k41 w Aw was.length was) (hcw : was.length ≤ cw) (hr : Kd.C k45 w Ar rows.length rows) (hrl : rows.length ≤ 100000) (hrs : ∀ x, x ∈ rows → x.f0.size ≤ 1000)
    (m : Bool) (hmay : slots_May.f was h = some m) (hno : (m && rowedFrom rows rows.length 0) = false) :
    Calls Tryz.prog 10 #[.string seed, .int .i64 h, .slice Aw was.length cw, .slice Ar rows.length cr] w fun e w' => e = .returned (.tuple #[.slice none 0 0, .int .i64 2]) ∧ Below w.heap.size w w' := by
  have HH : Aside0 (∀ W, Calls Tryz.prog 25 #[.int .i64 h] W fun e w' => e = .returned (.bool true) ∧ Drawn0 W w') := ⟨fun W => slots_high.calls h true W (by unfold slots_high.f; rw [if_pos (by omega)]; congr 1; exact decide_eq_true (by omega))⟩
  have HM : Aside0 (∀ W, Below w.heap.size w W → Calls Tryz.prog 15 #[.slice Aw was.length cw, .int .i64 h] W fun e w' => e = .returned (.bool m) ∧ Below W.heap.size W w') := ⟨fun W hb => slots_May.calls Aw cw was h m W (GTab.below hGT hb) (Kd.C_below hw hb) hcw hmay⟩
  have HR : Aside0 (∀ W, Below w.heap.size w W → Calls Tryz.prog 26 #[.slice Ar rows.length cr] W fun e w' => e = .returned (.bool (rowedFrom rows rows.length 0)) ∧ Below W.heap.size W w') := ⟨fun W hb => rowed_calls Ar cr rows W (GTab.below hGT hb) (Kd.C_below hr hb) hrl hrs⟩
  have c64 : decide ((64 : Int) < (seed.size : Int)) = false := decide_eq_false (by omega)
  have c64' : ¬ ((64 : Int) < (seed.size : Int)) := by omega
  generalize rowedFrom rows rows.length 0 = rw_ at HR hno
  clear hw hr hGT hmay
  go_enter Tryz.func10, Tryz.ntmps10
  go_wp2_with fail
  refine (HH.out _).mono ?_
  rintro e w1 ⟨rfl, ⟨n1, rfl⟩⟩
  have HE0 : Aside0 ((((w.alloc (.cells #[.string seed] 9)).alloc (.cells #[.int .i64 (h : Int)] 3)).drewN n1).heap[w.heap.size]? = some (.cells #[.string seed] 9 (0, 0))) := ⟨(Below.heap_alloc _ _ _ (by simp)).trans (blk_new w _)⟩
  have hE1 := heap_alloc_new (w.alloc (.cells #[.string seed] 9)) (.cells #[.int .i64 (h : Int)] 3)
  rw [World.size_alloc] at hE1
  have HE1 : Aside0 ((((w.alloc (.cells #[.string seed] 9)).alloc (.cells #[.int .i64 (h : Int)] 3)).drewN n1).heap[w.heap.size + 1]? = some (.cells #[.int .i64 (h : Int)] 3 (0, 0))) := ⟨hE1⟩
  have HB1 : Aside0 (Below w.heap.size w (((w.alloc (.cells #[.string seed] 9)).alloc (.cells #[.int .i64 (h : Int)] 3)).drewN n1)) := ⟨pw_below_drewN (((Below.refl _ _).alloc (Nat.le_refl _) _).alloc (by simp) _) n1⟩
  generalize ((w.alloc (.cells #[.string seed] 9)).alloc (.cells #[.int .i64 (h : Int)] 3)).drewN n1 = w1 at HE0 HE1 HB1 ⊢
  have e0 : w1.cell? ⟨w.heap.size, 0, none⟩ = some (.string seed) := blk_cell HE0.out 0
  have e1 : w1.cell? ⟨w.heap.size + 1, 0, none⟩ = some (.int .i64 (h : Int)) := blk_cell HE1.out 0
  clear hE1
  cases m with
  | false =>
    clear hno HR
    go_wp2_with fail
    refine (HM.out _ HB1.out).mono ?_
    rintro e w2 ⟨rfl, hb2⟩
    have HB2 : Aside0 (Below w.heap.size w w2) := ⟨HB1.out.trans (hb2.mono HB1.out.size)⟩
    clear e0 e1 hb2 HE0 HE1 HB1
    go_wp2_with fail
    (try simp only [Exit.inBlock, Exit.then]); refine bodyPost_ret (results_tmp2 rfl _ _ _) rfl ?_
    exact ⟨rfl, HB2.out⟩
  | true =>
    rw [Bool.true_and] at hno
    subst hno
    go_wp2_with fail
    refine (HM.out _ HB1.out).mono ?_
    rintro e w2 ⟨rfl, hb2⟩
    have HB2 : Aside0 (Below w.heap.size w w2) := ⟨HB1.out.trans (hb2.mono HB1.out.size)⟩
    clear e0 e1 hb2 HE0 HE1 HB1
    go_wp2_with fail
    refine (HR.out _ HB2.out).mono ?_
    rintro e w3 ⟨rfl, hb3⟩
    have HB3 : Aside0 (Below w.heap.size w w3) := ⟨HB2.out.trans (hb3.mono HB2.out.size)⟩
    clear hb3 HB2 HH HM HR
    go_wp2_with fail
    (try simp only [Exit.inBlock, Exit.then]); refine bodyPost_ret (results_tmp2 rfl _ _ _) rfl ?_
    exact ⟨rfl, HB3.out⟩
set_option maxHeartbeats 4000000 in
theorem place_rows (seed : ByteArray) (h : Nat) (was : List S41) (rows : List S45) (Aw : Option Addr) (cw : Nat) (Ar : Option Addr) (cr : Nat) (w : World) (hGT : GTab w) (hh : h ≤ 10) (hs : seed.size ≤ 64)
    (hw : Kd.C k41 w Aw was.length was) (hcw : was.length ≤ cw) (hr : Kd.C k45 w Ar rows.length rows) (hrl : rows.length ≤ 100000) (hrs : ∀ x, x ∈ rows → x.f0.size ≤ 1000)
    (hmay : slots_May.f was (h : Int) = some true) (hrow : rowedFrom rows rows.length 0 = true) (hm : 2 ^ h < rows.length) :
    Calls Tryz.prog 10 #[.string seed, .int .i64 (h : Int), .slice Aw was.length cw, .slice Ar rows.length cr] w fun e w' => e = .returned (.tuple #[.slice none 0 0, .int .i64 111]) ∧ Below w.heap.size w w' := by
  have HH : Aside0 (∀ W, Calls Tryz.prog 25 #[.int .i64 (h : Int)] W fun e w' => e = .returned (.bool true) ∧ Drawn0 W w') := ⟨fun W => slots_high.calls (h : Int) true W (by unfold slots_high.f; rw [if_pos (by omega)]; congr 1; exact decide_eq_true (by omega))⟩
  have HM : Aside0 (∀ W, Below w.heap.size w W → Calls Tryz.prog 15 #[.slice Aw was.length cw, .int .i64 (h : Int)] W fun e w' => e = .returned (.bool true) ∧ Below W.heap.size W w') := ⟨fun W hb => slots_May.calls Aw cw was (h : Int) true W (GTab.below hGT hb) (Kd.C_below hw hb) hcw hmay⟩
  have HR : Aside0 (∀ W, Below w.heap.size w W → Calls Tryz.prog 26 #[.slice Ar rows.length cr] W fun e w' => e = .returned (.bool true) ∧ Below W.heap.size W w') := ⟨fun W hb => hrow ▸ rowed_calls Ar cr rows W (GTab.below hGT hb) (Kd.C_below hr hb) hrl hrs⟩
  have c64 : decide ((64 : Int) < (seed.size : Int)) = false := decide_eq_false (by omega)
  have c64' : ¬ ((64 : Int) < (seed.size : Int)) := by omega
  have hp := Nat.two_pow_pos h
  have hp10 : 2 ^ h ≤ 1024 := by
    have := Nat.pow_le_pow_right (n := 2) (by decide) hh
    omega
  have hsh0 : (0 : Int) ≤ (h : Int) := by omega
  have hwrap : IntKind.i64.wrap ((2 : Int) ^ h) = ((2 ^ h : Nat) : Int) := by
    have e : ((2 : Int) ^ h) = ((2 ^ h : Nat) : Int) := by push_cast; rfl
    rw [e, IntWalk.i64_in _ (by omega)]
  have e2h : ((2 : Int) ^ h) = ((2 ^ h : Nat) : Int) := by push_cast; rfl
  have cm : decide ((2 : Int) ^ h < (rows.length : Int)) = true := by rw [e2h]; exact decide_eq_true (by omega)
  have cm' : ((2 : Int) ^ h < (rows.length : Int)) := by rw [e2h]; omega
  clear e2h
  clear hw hr hGT hrow hmay
  go_enter Tryz.func10, Tryz.ntmps10
  go_wp2_with fail
  refine (HH.out _).mono ?_
  rintro e w1 ⟨rfl, ⟨n1, rfl⟩⟩
  have HE0 : Aside0 ((((w.alloc (.cells #[.string seed] 9)).alloc (.cells #[.int .i64 (h : Int)] 3)).drewN n1).heap[w.heap.size]? = some (.cells #[.string seed] 9 (0, 0))) := ⟨(Below.heap_alloc _ _ _ (by simp)).trans (blk_new w _)⟩
  have hE1 := heap_alloc_new (w.alloc (.cells #[.string seed] 9)) (.cells #[.int .i64 (h : Int)] 3)
  rw [World.size_alloc] at hE1
  have HE1 : Aside0 ((((w.alloc (.cells #[.string seed] 9)).alloc (.cells #[.int .i64 (h : Int)] 3)).drewN n1).heap[w.heap.size + 1]? = some (.cells #[.int .i64 (h : Int)] 3 (0, 0))) := ⟨hE1⟩
  have HB1 : Aside0 (Below w.heap.size w (((w.alloc (.cells #[.string seed] 9)).alloc (.cells #[.int .i64 (h : Int)] 3)).drewN n1)) := ⟨pw_below_drewN (((Below.refl _ _).alloc (Nat.le_refl _) _).alloc (by simp) _) n1⟩
  generalize ((w.alloc (.cells #[.string seed] 9)).alloc (.cells #[.int .i64 (h : Int)] 3)).drewN n1 = w1 at HE0 HE1 HB1 ⊢
  have e0 : w1.cell? ⟨w.heap.size, 0, none⟩ = some (.string seed) := blk_cell HE0.out 0
  have e1 : w1.cell? ⟨w.heap.size + 1, 0, none⟩ = some (.int .i64 (h : Int)) := blk_cell HE1.out 0
  clear hE1
  go_wp2_with fail
  refine (HM.out _ HB1.out).mono ?_
  rintro e w2 ⟨rfl, hb2⟩
  have HE1' := Aside0.mk (blk_below HE1.out hb2)
  have HB2 : Aside0 (Below w.heap.size w w2) := ⟨HB1.out.trans (hb2.mono HB1.out.size)⟩
  clear e0 e1 hb2 HE0 HE1 HB1
  go_wp2_with fail
  refine (HR.out _ HB2.out).mono ?_
  rintro e w3 ⟨rfl, hb3⟩
  have HE1 := Aside0.mk (blk_below HE1'.out hb3)
  have HB3 : Aside0 (Below w.heap.size w w3) := ⟨HB2.out.trans (hb3.mono HB2.out.size)⟩
  clear hb3 HE1' HB2 HH HM HR
  have e1 : w3.cell? ⟨w.heap.size + 1, 0, none⟩ = some (.int .i64 (h : Int)) := blk_cell HE1.out 0
  go_wp2_with fail
  (try simp only [Exit.inBlock, Exit.then]); refine bodyPost_ret (results_tmp2 rfl _ _ _) rfl ?_
  exact ⟨rfl, HB3.out⟩
def slots_Place.f (a0 : ByteArray) (a1 : Int) (l2 : List S41) (l3 : List S45) : Option (List S41 × Int) :=
  if l2.length ≤ 100000 ∧ (∀ x, x ∈ l2 → x.f0.size ≤ 1000) ∧ (∀ x, x ∈ l2 → (Lit.int .u64 x.f3).wf = true) ∧ l3.length ≤ 300 ∧ (∀ x, x ∈ l3 → x.f0.size ≤ 1000) then
    some (if ¬ (0 ≤ a1 ∧ a1 ≤ 10) then ([], 120) else if 64 < a0.size then ([], 3) else if (mayFrom ((2 ^ a1.toNat : Nat) : Int) l2 l2.length 0 && rowedFrom l3 l3.length 0) = false then ([], 2) else if 2 ^ a1.toNat < l3.length then ([], 111) else (accSort (placeL a0 a1.toNat l2 l3 (comingL l2 (insSort rowKey l3))), 0))
  else none
theorem slots_Place.calls (a0 : ByteArray) (a1 : Int) (A2 : Option Addr) (c2 : Nat) (l2 : List S41) (A3 : Option Addr) (c3 : Nat) (l3 : List S45) (r1 : List S41) (r2 : Int) (w : World) (hGT : GTab w) (hr2 : Kd.C k41 w A2 l2.length l2) (hc2 : l2.length ≤ c2) (hr3 : Kd.C k45 w A3 l3.length l3) (hc3 : l3.length ≤ c3) (h : slots_Place.f a0 a1 l2 l3 = some (r1, r2)) :
    Calls Tryz.prog 10 #[.string a0, .int .i64 a1, .slice A2 l2.length c2, .slice A3 l3.length c3] w fun e w' => ∃ v0_ : Value, e = .returned (.tuple #[v0_, .int .i64 r2]) ∧ Kd.R k41 41 w' w.heap.size (fun _ => True) v0_ r1 ∧ Below w.heap.size w w' := by
  unfold slots_Place.f at h
  by_cases hc : l2.length ≤ 100000 ∧ (∀ x, x ∈ l2 → x.f0.size ≤ 1000) ∧ (∀ x, x ∈ l2 → (Lit.int .u64 x.f3).wf = true) ∧ l3.length ≤ 300 ∧ (∀ x, x ∈ l3 → x.f0.size ≤ 1000)
  case neg => rw [if_neg hc] at h; cases h
  rw [if_pos hc] at h
  have h := Option.some.inj h
  obtain ⟨hl, hi, hwf, hl3, hi3⟩ := hc
  have hnil : ∀ k : Int, r1 = [] → r2 = k → (Calls Tryz.prog 10 #[.string a0, .int .i64 a1, .slice A2 l2.length c2, .slice A3 l3.length c3] w fun e w' => e = .returned (.tuple #[.slice none 0 0, .int .i64 k]) ∧ Below w.heap.size w w') → Calls Tryz.prog 10 #[.string a0, .int .i64 a1, .slice A2 l2.length c2, .slice A3 l3.length c3] w fun e w' => ∃ v0_ : Value, e = .returned (.tuple #[v0_, .int .i64 r2]) ∧ Kd.R k41 41 w' w.heap.size (fun _ => True) v0_ r1 ∧ Below w.heap.size w w' := by
    rintro k rfl rfl hcl
    exact hcl.mono fun e w' ⟨he, hb⟩ => ⟨_, he, Kd.R_nil _ _ _ _ _, hb⟩
  by_cases hh : 0 ≤ a1 ∧ a1 ≤ 10
  case neg =>
    rw [if_pos hh] at h
    injection h with e1 e2
    exact hnil 120 e1.symm e2.symm (place_high a0 a1 A2 _ c2 A3 _ c3 w hh)
  rw [if_neg (not_not_intro hh)] at h
  by_cases hs : 64 < a0.size
  · rw [if_pos hs] at h
    injection h with e1 e2
    exact hnil 3 e1.symm e2.symm (place_long a0 a1 A2 _ c2 A3 _ c3 w hh hs)
  rw [if_neg hs] at h
  have hmay : slots_May.f l2 a1 = some (mayFrom ((2 ^ a1.toNat : Nat) : Int) l2 l2.length 0) := by
    unfold slots_May.f
    rw [if_pos ⟨hl, hi, hwf⟩, decide_eq_true hh, Bool.true_and]
  by_cases hm : (mayFrom ((2 ^ a1.toNat : Nat) : Int) l2 l2.length 0 && rowedFrom l3 l3.length 0) = false
  · rw [if_pos hm] at h
    injection h with e1 e2
    exact hnil 2 e1.symm e2.symm (place_arg a0 a1 l2 l3 A2 c2 A3 c3 w hGT hh (by omega) hr2 hc2 hr3 (by omega) hi3 _ hmay hm)
  rw [if_neg hm] at h
  rw [Bool.not_eq_false, Bool.and_eq_true] at hm
  obtain ⟨hm1, hm2⟩ := hm
  rw [hm1] at hmay
  obtain ⟨n, rfl⟩ := Int.eq_ofNat_of_zero_le hh.1
  rw [Int.toNat_natCast] at h
  by_cases hq : 2 ^ n < l3.length
  · rw [if_pos hq] at h
    injection h with e1 e2
    exact hnil 111 e1.symm e2.symm (place_rows a0 n l2 l3 A2 c2 A3 c3 w hGT (by omega) (by omega) hr2 hc2 hr3 (by omega) hi3 hmay hm2 hq)
  · rw [if_neg hq] at h
    injection h with e1 e2
    subst e1 e2
    exact place_ok a0 n (by omega) l2 l3 (by omega) A2 c2 A3 c3 w hGT hr2 hc2 hl hwf hr3 (Or.inr ⟨hl3, rowed_unlike l3 hm2⟩) hi3 hmay hm2 (by omega)
end Go.Proofs.YtfijhbfdkcajjaaGreatDoor.Pr
