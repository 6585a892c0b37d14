/- The contract of slices.swapRangeCmpFunc at rows. -/
import Derived.Test.YtfijhbfdkcajjaaGreatDoorRSort
import Derived.Test.YtfijhbfdkcajjaaGreatDoorSymMath
import Derived.BigRegion
import Derived.Shelf.SlSortCmp.InsertionK
namespace Go.Proofs.YtfijhbfdkcajjaaGreatDoor.Pr
open Go.RowKit Go.Proofs.YtfijhbfdkcajjaaGreatDoorW.PrintWords Go.Proofs.YtfijhbfdkcajjaaGreatDoorW.PrintLast Go.Proofs.YtfijhbfdkcajjaaGreatDoorW.PrintMore Go.SortKey Go.Shelf Go.Sort Go.Lib Go.SymSort
set_option linter.unusedVariables false
set_option linter.unusedSimpArgs false
/-- What an exchange of two rows asks and does: two loads and two runs of stores, as equations. -/
theorem swap_eqs (g : Nat) (d dk : Array S45) (m : Nat) (os : Array Obj) (w : World) (hH : HoldsK encR 3 w g 0 d) (hg : g < w.heap.size) (hs : dk.size = d.size) (i j : Nat) (hi : i < dk.size) (hj : j < dk.size) :
    ∃ (k3 : Nat) (cI cJ : List Value), (∀ w, Sem.run Tryz.prog (Go.sizeOf 45) w = .ok k3 w) ∧ cI.length = k3 ∧ cJ.length = k3 ∧
      Sem.run Tryz.prog (loadCellsFrom ⟨g, i * 3, none⟩ 0 k3 #[]) (sortWorldK encR 3 w g 0 m dk os).drew = .ok cI.toArray (sortWorldK encR 3 w g 0 m dk os).drew ∧
      Sem.run Tryz.prog (loadCellsFrom ⟨g, j * 3, none⟩ 0 k3 #[]) (sortWorldK encR 3 w g 0 m dk os).drew = .ok cJ.toArray (sortWorldK encR 3 w g 0 m dk os).drew ∧
      Sem.run Tryz.prog (storeCells ⟨g, i * 3, none⟩ cJ 0) (sortWorldK encR 3 w g 0 m dk os).drew = .ok () ((sortWorldK encR 3 w g 0 m dk os).drew.setCells g (i * 3) cJ) ∧
      Sem.run Tryz.prog (storeCells ⟨g, j * 3, none⟩ cI 0) ((sortWorldK encR 3 w g 0 m dk os).drew.setCells g (i * 3) cJ) = .ok () (((sortWorldK encR 3 w g 0 m dk os).drew.setCells g (i * 3) cJ).setCells g (j * 3) cI) ∧
      ((sortWorldK encR 3 w g 0 m dk os).drew.setCells g (i * 3) cJ).setCells g (j * 3) cI = sortWorldK encR 3 w g 0 (m + 1) (swp dk i j) os := by
  have hHd : HoldsK encR 3 (sortWorldK encR 3 w g 0 m dk os).drew g 0 dk := holdsK_sortWorldK_c encR 3 w g 0 d dk m os hH hg hs
  have hsw := sortWorldK_swp_c encR 3 w g 0 encR_len m dk os hg i j hi hj
  rw [Nat.zero_add, Nat.zero_add] at hsw
  generalize (sortWorldK encR 3 w g 0 m dk os).drew = wq at hHd hsw ⊢
  have bnd : ∀ x, x < dk.size → x * 3 + 3 ≤ dk.size * 3 := fun x hx => by omega
  refine ⟨3, encR dk[i]!, encR dk[j]!, Tryz.sizeOf45, encR_len _, encR_len _, ?_, ?_, ?_, ?_, hsw⟩
  · have h_ := run_loadCellsFrom_list Tryz.prog _ _ _ 3 (encR_len _) (HoldsK.cells hHd encR_len (i := i) hi)
    rw [Nat.zero_add] at h_
    exact h_
  · have h_ := run_loadCellsFrom_list Tryz.prog _ _ _ 3 (encR_len _) (HoldsK.cells hHd encR_len (i := j) hj)
    rw [Nat.zero_add] at h_
    exact h_
  · have h_ := stores_of_holds Tryz.prog hHd (i * 3) (encR dk[j]!) (by rw [encR_len, size_flatK]; exact bnd i hi) (encR_one _)
    rw [Nat.zero_add] at h_
    exact h_
  · have h_ := stores_of_holds Tryz.prog (holds_setCells_c hHd (i * 3) (encR dk[j]!) (by rw [encR_len, size_flatK]; exact bnd i hi)) (j * 3) (encR dk[i]!) (by rw [encR_len, size_setMany, size_flatK]; exact bnd j hj) (encR_one _)
    rw [Nat.zero_add, Nat.zero_add] at h_
    exact h_
set_option maxRecDepth 100000 in
set_option maxHeartbeats 4000000 in
theorem swapRange_calls (g cap a b n : Nat) (v : Value) (d : Array S45) (w : World) (hH : HoldsK encR 3 w g 0 d) (hg : g < w.heap.size) (ha : a + n ≤ d.size) (hb : b + n ≤ d.size) (hd : d.size ≤ 100000) :
    Calls Tryz.prog 142 #[.slice (some ⟨g, 0, none⟩) d.size cap, .int .i64 (a : Int), .int .i64 (b : Int), .int .i64 (n : Int), v] w fun e w' => e = .returned (.tuple #[]) ∧ ∃ m os, w' = sortWorldK encR 3 w g 0 m (swapR d a b n) os := by
  have HST : Hid (w = sortWorldK encR 3 w g 0 0 d #[]) := by show w = _; unfold sortWorldK; rw [grow_empty]; exact (putRowK_self encR 3 w g 0 d hH).symm
  have HH : Hid (HoldsK encR 3 w g 0 d) := hH
  have HG : Hid (g < w.heap.size) := hg
  clear hH hg
  go_enter Tryz.func142, Tryz.ntmps142
  go_wp2
  go_loopg [10] n (fun g1 vi wr => ∃ (i m : Nat) (os : Array Obj), vi = .int .i64 i ∧ i ≤ n ∧ n - i ≤ g1 ∧ wr = sortWorldK encR 3 w g 0 m (swapR d a b i) os)
  case atStart => exact ⟨0, 0, #[], rfl, Nat.zero_le _, Nat.le_refl _, HST.out⟩
  case round =>
    obtain ⟨i, m, os, rfl, hin, hg1, rfl⟩ := hrel
    by_cases hlt : i < n
    · have hltz : (i : Int) < (n : Int) := by omega
      have mixed : Tryz.prog.follows Departure.mixedOrders = true := by kernel_rfl
      have ea : IntKind.i64.wrap ((a : Int) + (i : Int)) = ((a + i : Nat) : Int) := by rw [IntKind.wrap_i64]; omega
      have eb : IntKind.i64.wrap ((b : Int) + (i : Int)) = ((b + i : Nat) : Int) := by rw [IntKind.wrap_i64]; omega
      have ha0 : (0 : Int) ≤ ((a + i : Nat) : Int) := by omega
      have hb0 : (0 : Int) ≤ ((b + i : Nat) : Int) := by omega
      have ha1 : ((a + i : Nat) : Int) < (d.size : Int) := by omega
      have hb1 : ((b + i : Nat) : Int) < (d.size : Int) := by omega
      have hsz : (swapR d a b i).size = d.size := size_swapR d a b i
      obtain ⟨k3, cA, cB, zE, hsA, hsB, la, lb, s1, s2, hsw⟩ := swap_eqs g d (swapR d a b i) m os w HH.out HG.out hsz (a + i) (b + i) (by omega) (by omega)
      have HSW : Hid _ := hsw
      clear hsw hsz
      generalize hwq : sortWorldK encR 3 w g 0 m (swapR d a b i) os = wq at la lb s1 s2 HSW ⊢
      clear hwq
      go_wp2_with fail
      have aE := Tryz.isAgg45
      generalize (45 : Nat) = T at zE aE ⊢
      go_big_region_o
      all_goals go_wp2
      go_roundg (n - (i + 1))
      case measure => omega
      case rel =>
        refine ⟨i + 1, m + 1, os, by first | rfl | go_num | (congr 1; omega), by omega, Nat.le_refl _, ?_⟩
        rw [swapR, ← HSW.out]
    · have hltz : ¬ (i : Int) < (n : Int) := by omega
      go_wp2
      go_end0
      exact ⟨rfl, m, os, by rw [show n = i by omega]⟩
end Go.Proofs.YtfijhbfdkcajjaaGreatDoor.Pr
