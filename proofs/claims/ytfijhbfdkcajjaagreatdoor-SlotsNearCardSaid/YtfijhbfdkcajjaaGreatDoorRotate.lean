/- The contract of slices.rotateCmpFunc at rows. -/
import Derived.Test.YtfijhbfdkcajjaaGreatDoorSwap
namespace Go.Proofs.YtfijhbfdkcajjaaGreatDoor.Pr
open Go.RowKit Go.Proofs.YtfijhbfdkcajjaaGreatDoorW.PrintWords Go.Proofs.YtfijhbfdkcajjaaGreatDoorW.PrintLast Go.Proofs.YtfijhbfdkcajjaaGreatDoorW.PrintMore Go.SortKey Go.Shelf Go.Sort Go.Lib Go.SymSort
set_option linter.unusedVariables false
set_option linter.unusedSimpArgs false
theorem sw_trans (g : Nat) (d d1 d2 : Array S45) (m1 m2 : Nat) (o1 o2 : Array Obj) (w : World) (h1 : d1.size = d.size) (h2 : d2.size = d1.size) (hH : HoldsK encR 3 w g 0 d) (hg : g < w.heap.size) : sortWorldK encR 3 (sortWorldK encR 3 w g 0 m1 d1 o1) g 0 m2 d2 o2 = sortWorldK encR 3 w g 0 (m1 + m2) d2 (o1 ++ o2) := by
  unfold sortWorldK
  exact grow_step_growK encR 3 w o1 o2 m1 m2 g 0 d1 d2 hg h2
set_option maxRecDepth 100000 in
set_option maxHeartbeats 4000000 in
/-- Two blocks side by side are turned about their border. -/
theorem rotate_calls (g cap a m b : Nat) (v : Value) (d : Array S45) (w : World) (hH : HoldsK encR 3 w g 0 d) (hg : g < w.heap.size) (ham : a < m) (hmb : m < b) (hb : b ≤ d.size) (hd : d.size ≤ 100000) :
    Calls Tryz.prog 129 #[.slice (some ⟨g, 0, none⟩) d.size cap, .int .i64 (a : Int), .int .i64 (m : Int), .int .i64 (b : Int), v] w fun e w' => e = .returned (.tuple #[]) ∧ ∃ n d' os, w' = sortWorldK encR 3 w g 0 n d' os ∧ PermIn a b d d' ∧ ∀ k, d'[k]! = turned d a m b k := by
  have HST : Hid (w = sortWorldK encR 3 w g 0 0 d #[]) := by show w = _; unfold sortWorldK; rw [grow_empty]; exact (putRowK_self encR 3 w g 0 d hH).symm
  have HH : Hid (HoldsK encR 3 w g 0 d) := hH
  have HG : Hid (g < w.heap.size) := hg
  have hcall : ∀ (n : Nat) (dk : Array S45) (os : Array Obj) (x y c : Nat), PermIn a b d dk → x + c ≤ b → y + c ≤ b → Calls Tryz.prog 142 #[.slice (some ⟨g, 0, none⟩) d.size cap, .int .i64 (x : Int), .int .i64 (y : Int), .int .i64 (c : Int), v] (sortWorldK encR 3 w g 0 n dk os) fun e w' => e = .returned (.tuple #[]) ∧ ∃ n' os', w' = sortWorldK encR 3 w g 0 n' (swapR dk x y c) os' := by
    intro n dk os x y c hp hx hy
    have hs := hp.1
    have h1 := swapRange_calls g cap x y c v dk (sortWorldK encR 3 w g 0 n dk os) (holdsK_sortWorldK_c encR 3 w g 0 d dk n os HH.out HG.out hs) (Nat.lt_of_lt_of_le HG.out (size_sortWorldK_c encR 3 w g 0 n dk os)) (by omega) (by omega) (by omega)
    rw [hs] at h1
    refine h1.mono ?_
    rintro e w' ⟨rfl, n', os', rfl⟩
    exact ⟨rfl, _, _, sw_trans g d dk (swapR dk x y c) n n' os os' w hs (size_swapR dk x y c) HH.out HG.out⟩
  have HC := Aside0.mk hcall
  clear hcall hH hg
  have e1 : IntKind.i64.wrap ((m : Int) - (a : Int)) = ((m - a : Nat) : Int) := by rw [IntKind.wrap_i64]; omega
  have e2 : IntKind.i64.wrap ((b : Int) - (m : Int)) = ((b - m : Nat) : Int) := by rw [IntKind.wrap_i64]; omega
  have e1' : (m : Int) - (a : Int) = ((m - a : Nat) : Int) := by omega
  have e2' : (b : Int) - (m : Int) = ((b - m : Nat) : Int) := by omega
  go_enter Tryz.func129, Tryz.ntmps129
  go_wp2_with fail
  go_loopg [10, 11] (b - a) (fun g1 vi vj wr => ∃ (i j n : Nat) (dk : Array S45) (os : Array Obj), vi = .int .i64 i ∧ vj = .int .i64 j ∧ 0 < i ∧ 0 < j ∧ i ≤ m - a ∧ j ≤ b - m ∧ i + j ≤ g1 ∧ wr = sortWorldK encR 3 w g 0 n dk os ∧ Hid (PermIn a b d dk ∧ TurnInv (turned d a m b) m i j dk))
  case atStart => exact ⟨m - a, b - m, 0, d, #[], by go_num, by go_num, by omega, by omega, Nat.le_refl _, Nat.le_refl _, by omega, HST.out, ⟨permIn_refl _ _ _, turn_start d a m b (by omega) (by omega)⟩⟩
  case round =>
    obtain ⟨i, j, n, dk, os, rfl, rfl, hi0, hj0, hi1, hj1, hg1, rfl, hI⟩ := hrel
    have HI : Hid _ := hI
    clear hI
    have hsz : dk.size = d.size := HI.out.1.1
    have q1 : IntKind.i64.wrap ((m : Int) - (i : Int)) = ((m - i : Nat) : Int) := by rw [IntKind.wrap_i64]; omega
    by_cases hne : i = j
    · subst hne
      have hC := HC.out n dk os (m - i) m i HI.out.1 (by omega) (by omega)
      have HC2 := Aside0.mk hC
      clear hC
      generalize hwq : sortWorldK encR 3 w g 0 n dk os = wq at HC2 ⊢
      clear hwq
      go_wp2_with fail
      refine HC2.out.mono ?_
      rintro e w1 ⟨rfl, n', os', hx⟩
      have HX := Aside0.mk hx
      clear hx HC2 HC
      go_wp2
      go_end0
      exact ⟨rfl, n', _, os', HX.out, permIn_trans _ _ _ _ _ HI.out.1 (swapR_perm a b dk (m - i) m (by omega) (by omega) (by omega) i (by omega) (by omega)), turn_end _ m i dk HI.out.2 (by omega) (by omega)⟩
    · have hnez : ¬ ((i : Int) = (j : Int)) := by omega
      by_cases hlt : j < i
      · have hltz : (j : Int) < (i : Int) := by omega
        have q2 : IntKind.i64.wrap ((i : Int) - (j : Int)) = ((i - j : Nat) : Int) := by rw [IntKind.wrap_i64]; omega
        have hC := HC.out n dk os (m - i) m j HI.out.1 (by omega) (by omega)
        have HC2 := Aside0.mk hC
        clear hC
        generalize hwq : sortWorldK encR 3 w g 0 n dk os = wq at HC2 ⊢
        clear hwq
        go_wp2_with fail
        refine HC2.out.mono ?_
        rintro e w1 ⟨rfl, n', os', hx⟩
        have HX := Aside0.mk hx
        clear hx HC2
        go_wp2
        go_roundg (i + j - j)
        case measure => omega
        case rel => exact ⟨i - j, j, n', _, os', by go_num, rfl, by omega, hj0, by omega, hj1, by omega, HX.out, ⟨permIn_trans _ _ _ _ _ HI.out.1 (swapR_perm a b dk (m - i) m (by omega) (by omega) (by omega) j (by omega) (by omega)), turn_left _ m i j dk HI.out.2 (by omega) hlt (by omega)⟩⟩
      · have hltz : ¬ (j : Int) < (i : Int) := by omega
        have q2 : IntKind.i64.wrap ((j : Int) - (i : Int)) = ((j - i : Nat) : Int) := by rw [IntKind.wrap_i64]; omega
        have q3 : IntKind.i64.wrap ((m : Int) + (j : Int)) = ((m + j : Nat) : Int) := by rw [IntKind.wrap_i64]; omega
        have q4 : IntKind.i64.wrap (((m + j : Nat) : Int) - (i : Int)) = ((m + j - i : Nat) : Int) := by rw [IntKind.wrap_i64]; omega
        have hC := HC.out n dk os (m - i) (m + j - i) i HI.out.1 (by omega) (by omega)
        rw [show ((m + j - i : Nat) : Int) = (m : Int) + (j : Int) - (i : Int) by omega] at hC
        have HC2 := Aside0.mk hC
        clear hC
        generalize hwq : sortWorldK encR 3 w g 0 n dk os = wq at HC2 ⊢
        clear hwq
        go_wp2_with fail
        refine HC2.out.mono ?_
        rintro e w1 ⟨rfl, n', os', hx⟩
        have HX := Aside0.mk hx
        clear hx HC2
        go_wp2
        go_roundg (i + j - i)
        case measure => omega
        case rel => exact ⟨i, j - i, n', _, os', rfl, by go_num, hi0, by omega, hi1, by omega, by omega, HX.out, ⟨permIn_trans _ _ _ _ _ HI.out.1 (swapR_perm a b dk (m - i) (m + j - i) (by omega) (by omega) (by omega) i (by omega) (by omega)), turn_right _ m i j dk HI.out.2 (by omega) (by omega) (by omega)⟩⟩
end Go.Proofs.YtfijhbfdkcajjaaGreatDoor.Pr
