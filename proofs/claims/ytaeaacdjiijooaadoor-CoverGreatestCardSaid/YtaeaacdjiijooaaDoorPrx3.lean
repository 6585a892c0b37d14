-- Written by wip/tools/myprint.py (a print of the translation, turned). Not trusted: Lean checks it.
import Derived.Test.YtaeaacdjiijooaaDoorPrx0
import Derived.Test.YtaeaacdjiijooaaDoorTz
namespace Go.Proofs.YtaeaacdjiijooaaDoor.Pr
open Go.RowKit Go.Proofs.YtaeaacdjiijooaaDoorW.PrintWords Go.Proofs.YtaeaacdjiijooaaDoorW.PrintLast Go.Proofs.YtaeaacdjiijooaaDoorW.PrintMore
attribute [local go_sem] max2_int min2_int max_two min_two max_three min_three max_four min_four   -- for this text's walks alone
set_option linter.unusedVariables false
set_option linter.unusedSimpArgs false

/-! ### cover_blocks: function 21 -/
def cover_blocks.l0 : Nat → Int → Int → List (S33) → Option ((List (S33)))
  | 0, _, _, _ => none
  | k + 1, x0, x1, x5 => if x0 < x1 then ((bits_TrailingZeros64.f x0).bind fun t104 => ((bits_Len64.f (IntKind.u64.wrap (x1 - x0))).bind fun t105 => (if 0 ≤ (mn t104 (wrap64 (t105 - 1))) then (if x5.length < 8796093022208 then (cover_blocks.l0 k (IntKind.u64.wrap (x0 + (shl .u64 1 (mn t104 (wrap64 (t105 - 1)))))) x1 (x5 ++ [(⟨mn t104 (wrap64 (t105 - 1)), shr .u64 x0 (mn t104 (wrap64 (t105 - 1)))⟩ : S33)])) else (none)) else (none)))) else (some x5)
def cover_blocks.f (k : Nat) (a0 : Int) (a1 : Int) : Option ((List (S33))) := cover_blocks.l0 k a0 a1 ([] : List (S33))
theorem cover_blocks.mono_l : ∀ k, (∀ y0 y1 y2, LeO (cover_blocks.l0 k y0 y1 y2) (cover_blocks.l0 (k + 1) y0 y1 y2))
  | 0 => fun _ _ _ r h => by simp [cover_blocks.l0] at h
  | k + 1 => by
    have ih0 := cover_blocks.mono_l k
    · intro y0 y1 y2
      unfold cover_blocks.l0
      repeat' first
      | (with_reducible exact ih0 _ _ _)
      | (with_reducible exact LeO.refl _)
      | (with_reducible exact LeO.none _)
      | (with_reducible refine LeO.ite ?_ ?_)
      | (with_reducible refine LeO.bind ?_ (fun _ => ?_))
      | exact ih0 _ _ _
      | exact LeO.none _
      | refine LeO.ite ?_ ?_
      | refine LeO.bind ?_ (fun _ => ?_)
theorem cover_blocks.mono : ∀ a0 a1 k, LeO (cover_blocks.f k a0 a1) (cover_blocks.f (k + 1) a0 a1) := by
  intro a0 a1 k
  have ih0 := cover_blocks.mono_l k
  unfold cover_blocks.f
  repeat' first
      | (with_reducible exact ih0 _ _ _)
      | (with_reducible exact LeO.refl _)
      | (with_reducible exact LeO.none _)
      | (with_reducible refine LeO.ite ?_ ?_)
      | (with_reducible refine LeO.bind ?_ (fun _ => ?_))
      | exact ih0 _ _ _
      | exact LeO.none _
      | refine LeO.ite ?_ ?_
      | refine LeO.bind ?_ (fun _ => ?_)
set_option maxHeartbeats 8000000 in
set_option maxRecDepth 100000 in
theorem cover_blocks.calls (k : Nat) (a0 : Int) (a1 : Int) (r : List (S33)) (w : World) (hGT : GTab w) (h : cover_blocks.f k a0 a1 = some r) :
    Calls Tryd.prog 21 #[.int .u64 a0, .int .u64 a1] w fun e w' => ∃ v0_ : Value, e = .returned (v0_) ∧ Kd.R k33 33 w' w.heap.size (fun _ => True) v0_ r ∧ Below w.heap.size w w' := by
  have hu33 := Tryd.underlying33
  have HB := Aside0.mk (Below.refl w.heap.size w)
  have HG := Aside0.mk hGT
  clear hGT
  have H : (cover_blocks.l0 k a0 a1 ([] : List (S33))) = some r := h
  clear h
  have H' := Aside0.mk H
  clear H
  go_enter Tryd.func21, Tryd.ntmps21
  go_wp2
  go_loopg [0, 5] k (fun kq v0 v5 w' => ∃ (x0_1 : Int) (x5_1 : List (S33)), v0 = .int .u64 x0_1 ∧ Aside0 (cover_blocks.l0 kq x0_1 a1 x5_1 = some r) ∧ Aside0 (kq ≤ k) ∧ Aside0 (Kd.R k33 33 w' w.heap.size (fun _ => True) v5 x5_1) ∧ Aside0 (Below w.heap.size w w'))
  case atStart => exact ⟨(a0), (([] : List (S33))), (by first | rfl | (simp; done) | (simp [*]; done)), H', ⟨Nat.le_refl _⟩, ⟨by first | exact Kd.R_nil _ _ _ _ _ | exact Kd.N_nil _ _ _ _ _ | exact Kd.V_nil _ _ _ _ _ | exact Kd.Q_nil _ _ _ _ _ | exact Kd.S_nil _ _ _ _ _⟩, ⟨by repeat (first | (with_reducible first | exact HB.out | apply below_alloc | apply pw_below_drewN | apply below_drew1) | exact HB.out)⟩⟩
  case round =>
    clear H'
    try clear c2
    try clear p2
    obtain ⟨x0_1, x5_1, rfl, HA, HK1, HO_5, HB⟩ := hrel
    cases gk with
    | zero => exact absurd HA.out (by simp [cover_blocks.l0])
    | succ k1 =>
      have H := HA.out
      clear HA
      simp only [cover_blocks.l0] at H
      by_cases c3 : x0_1 < a1
      · rw [if_pos c3] at H
        have c3b0 : decide (x0_1 < a1) = true := decide_eq_true c3
        clear c3
        replace H := Option.bind_eq_some_iff.mp H
        obtain ⟨t104, A40, H⟩ := H
        replace H : ((bits_Len64.f (IntKind.u64.wrap (a1 - x0_1))).bind fun t105 => (if 0 ≤ (mn t104 (wrap64 (t105 - 1))) then (if x5_1.length < 8796093022208 then (cover_blocks.l0 k1 (IntKind.u64.wrap (x0_1 + (shl .u64 1 (mn t104 (wrap64 (t105 - 1)))))) a1 (x5_1 ++ [(⟨mn t104 (wrap64 (t105 - 1)), shr .u64 x0_1 (mn t104 (wrap64 (t105 - 1)))⟩ : S33)])) else (none)) else (none))) = some r := H
        have A4 := Aside0.mk A40
        clear A40
        replace H := Option.bind_eq_some_iff.mp H
        obtain ⟨t105, A50, H⟩ := H
        replace H : (if 0 ≤ (mn t104 (wrap64 (t105 - 1))) then (if x5_1.length < 8796093022208 then (cover_blocks.l0 k1 (IntKind.u64.wrap (x0_1 + (shl .u64 1 (mn t104 (wrap64 (t105 - 1)))))) a1 (x5_1 ++ [(⟨mn t104 (wrap64 (t105 - 1)), shr .u64 x0_1 (mn t104 (wrap64 (t105 - 1)))⟩ : S33)])) else (none)) else (none)) = some r := H
        have A5 := Aside0.mk A50
        clear A50
        obtain ⟨ji6, hji6⟩ : ∃ j_ : Int, (mn t104 (wrap64 (t105 - 1))) = j_ := ⟨_, rfl⟩
        replace H : (if 0 ≤ (ji6) then (if x5_1.length < 8796093022208 then (cover_blocks.l0 k1 (IntKind.u64.wrap (x0_1 + (shl .u64 1 (ji6)))) a1 (x5_1 ++ [(⟨ji6, shr .u64 x0_1 (ji6)⟩ : S33)])) else (none)) else (none)) = some r := by first | (rw [hji6] at H; exact H) | (simp only [hji6] at H ⊢; exact H)
        (try rw [hji6] at A4)
        (try rw [hji6] at A5)
        have hji6_ : (if (wrap64 (t105 - 1)) < t104 then (wrap64 (t105 - 1)) else t104) = ji6 := hji6
        by_cases c7 : 0 ≤ (ji6)
        · rw [if_pos c7] at H
          have c7b0 := eq_true c7
          have c7b1 : decide (0 ≤ (ji6)) = true := decide_eq_true c7
          clear c7
          obtain ⟨ji8, hji8⟩ : ∃ j_ : Int, (shr .u64 x0_1 (ji6)) = j_ := ⟨_, rfl⟩
          replace H : (if x5_1.length < 8796093022208 then (cover_blocks.l0 k1 (IntKind.u64.wrap (x0_1 + (shl .u64 1 (ji6)))) a1 (x5_1 ++ [(⟨ji6, ji8⟩ : S33)])) else (none)) = some r := by first | (rw [hji8] at H; exact H) | (simp only [hji8] at H ⊢; exact H)
          (try rw [hji8] at A4)
          (try rw [hji8] at A5)
          have hji8_ : (x0_1 / 2 ^ min (ji6).toNat 64) = ji8 := hji8
          have hji8z : (ji6) ≤ 64 → (x0_1 / 2 ^ (ji6).toNat) = ji8 := shr_small hji8
          by_cases c9 : x5_1.length < 8796093022208
          · rw [if_pos c9] at H
            have LMc9 := Aside0.mk c9
            clear c9
            obtain ⟨y106, hy106⟩ : ∃ y_ : List (S33), y_ = (x5_1 ++ [(⟨ji6, ji8⟩ : S33)]) := ⟨_, rfl⟩
            replace H : (cover_blocks.l0 k1 (IntKind.u64.wrap (x0_1 + (shl .u64 1 (ji6)))) a1 y106) = some r := by first | (rw [hy106]; with_reducible exact H) | (have H2_ := (Option.bind_some _ _).symm.trans H; rw [hy106]; with_reducible exact H2_) | (have H2_ := (Option.bind_some _ _).symm.trans H; with_reducible exact H2_) | with_reducible exact H | (rw [hy106]; exact H) | exact H
            have Ny106 := Aside0.mk hy106
            clear hy106
            have c10b0 := eq_true (of_decide_eq_true (by first | (with_reducible assumption) | assumption) : 0 ≤ (ji6))
            obtain ⟨ji11, hji11⟩ : ∃ j_ : Int, (shl .u64 1 (ji6)) = j_ := ⟨_, rfl⟩
            replace H : (cover_blocks.l0 k1 (IntKind.u64.wrap (x0_1 + (ji11))) a1 y106) = some r := by first | (rw [hji11] at H; exact H) | (simp only [hji11] at H ⊢; exact H)
            (try rw [hji11] at A4)
            (try rw [hji11] at A5)
            have hji11_ : (IntKind.u64.wrap (1 * 2 ^ min (ji6).toNat 64)) = ji11 := hji11
            have hji11z : (ji6) ≤ 64 → (IntKind.u64.wrap (1 * 2 ^ (ji6).toNat)) = ji11 := shl_small hji11
            have hji11u : (IntKind.u64.wrap (2 ^ min (ji6).toNat 64)) = ji11 := by have h_ := hji11_; rw [Int.one_mul] at h_; exact h_
            have hji11v : (ji6) ≤ 64 → (IntKind.u64.wrap (2 ^ (ji6).toNat)) = ji11 := fun hle_ => by have h_ := hji11z hle_; rw [Int.one_mul] at h_; exact h_
            have H' := Aside0.mk H
            clear H
            go_wp2_with (first | ((with_reducible refine gate_callee (f := 27) rfl ?_); refine goesL_ (some 11) rfl rfl Tryd.func27 (by kernel_rfl) rfl #[.int .u64 x0_1] rfl (by (try simp only [List.map_toArray, List.map_cons, List.map_nil]); first | done | rfl | (simp only [List.length_drop, List.length_take]; rfl)) ?_; (with_reducible refine (bits_TrailingZeros64.calls x0_1 t104 _ ?side1 A4.out).mono ?_); (case side1 => first | exact HG.out | exact GTab.below (w := w) HG.out (by repeat (first | (with_reducible first | exact HB.out | apply below_alloc | apply pw_below_drewN | apply below_drew1) | exact HB.out))); rintro e w' ⟨rfl, ⟨nd, rfl⟩⟩; refine ⟨_, rfl, ?_⟩) | ((with_reducible refine gate_callee (f := 28) rfl ?_); refine goesL_ (some 15) rfl rfl Tryd.func28 (by kernel_rfl) rfl #[.int .u64 (IntKind.u64.wrap (a1 - x0_1))] rfl (by (try simp only [List.map_toArray, List.map_cons, List.map_nil]); first | done | rfl | (simp only [List.length_drop, List.length_take]; rfl)) ?_; (with_reducible refine (bits_Len64.calls (IntKind.u64.wrap (a1 - x0_1)) t105 _ A5.out).mono ?_); rintro e w' ⟨rfl, ⟨nd, rfl⟩⟩; refine ⟨_, rfl, ?_⟩) | ((with_reducible refine gate_builtin (b := .append) (xs := #[.tmp 18, .tmp 24]) rfl ?_); at_builtin; refine Kd.R_append k33 (w0 := w) w.heap.size rfl (.tmp 18) (.tmp 24) 23 33 (.agg #[(.int .i64 0), (.int .u64 0)]) 16 rfl Tryd.underlying23 info33 rfl (by decide) (by omega) u5 x5_1 (⟨ji6, ji8⟩ : S33) [.int .i64 ji6, .int .u64 ji8] (fun _ => True) (fun _ => False) rfl rfl ?aP (fun _ hk => hk.elim) ?aF ?aO ?aB ?aS ?aL ?_; (case aP => exact k33_mkM _ _ _ (⟨ji6, ji8⟩ : S33)); (case aB => exact (by repeat (first | (with_reducible first | exact HB.out | apply below_alloc | apply pw_below_drewN | apply below_drew1) | exact HB.out))); (case aF => exact (fun _ _ => trivial)); (case aO => exact (by (with_reducible repeat (first | apply Kd.R_alloc | apply Kd.R_drewN | apply Kd.R_drew)); exact HO_5.out)); (case aS => exact (below_size (by repeat (first | (with_reducible first | exact HB.out | apply below_alloc | apply pw_below_drewN | apply below_drew1) | exact HB.out)))); (case aL => have := LMc9.out; omega); intro v107 w12 ho hb hg hat; rw [← Ny106.out] at ho; have n0_ := Aside0.mk (hb); have n1_ := Aside0.mk (ho); clear HB; clear HO_5; have HB := n0_; have HO108 := n1_; clear n0_ n1_; clear ho hb hg hat))
            go_roundg k1
            case measure => have := HK1.out; omega
            case rel => exact ⟨(IntKind.u64.wrap (x0_1 + (ji11))), (y106), (by first | rfl | (simp; done) | (simp only [← hji11] <;> (first | rfl | simp)) | (simp [*]; done)), H', ⟨by have := HK1.out; omega⟩, ⟨by (with_reducible repeat (first | apply Kd.R_alloc | apply Kd.R_drewN | apply Kd.R_drew)); exact HO108.out⟩, ⟨by repeat (first | (with_reducible first | exact HB.out | apply below_alloc | apply pw_below_drewN | apply below_drew1) | exact HB.out)⟩⟩
          · rw [if_neg c9] at H
            exact absurd H (by simp)
        · rw [if_neg c7] at H
          exact absurd H (by simp)
      · rw [if_neg c3] at H
        have c3b0 : decide (x0_1 < a1) = false := decide_eq_false c3
        clear c3
        obtain rfl := Option.some.inj H
        go_wp2
        go_ret
        exact ⟨_, by first | rfl | (simp [errW_none, errW_some] <;> rfl) | (simp [*, errW_none, errW_some] <;> rfl), by (with_reducible repeat (first | apply Kd.R_alloc | apply Kd.R_drewN | apply Kd.R_drew)); exact HO_5.out, by repeat (first | (with_reducible first | exact HB.out | apply below_alloc | apply pw_below_drewN | apply below_drew1) | exact HB.out)⟩

end Go.Proofs.YtaeaacdjiijooaaDoor.Pr
