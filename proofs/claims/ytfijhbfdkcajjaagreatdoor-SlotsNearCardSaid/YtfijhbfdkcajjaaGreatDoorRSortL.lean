/- The contract of row.Sort: fewer than twenty rows, or at most 300 of unlike Ids. -/
import Derived.Test.YtfijhbfdkcajjaaGreatDoorStable
namespace Go.Proofs.YtfijhbfdkcajjaaGreatDoor.Pr
open Go.RowKit Go.Proofs.YtfijhbfdkcajjaaGreatDoorW.PrintWords Go.Proofs.YtfijhbfdkcajjaaGreatDoorW.PrintLast Go.Proofs.YtfijhbfdkcajjaaGreatDoorW.PrintMore Go.SortKey Go.Shelf Go.Sort Go.Lib Go.SymSort
set_option linter.unusedVariables false
set_option linter.unusedSimpArgs false
set_option maxRecDepth 100000 in
theorem sortStableL_calls (g cap : Nat) (d : Array S45) (w : World) (hH : HoldsK encR 3 w g 0 d) (hg : g < w.heap.size) (hn : d.size ≤ 300) :
    Calls Tryz.prog 69 #[.slice (some ⟨g, 0, none⟩) d.size cap, .func (.func 70) #[] #[]] w fun e w' => e = .returned (.tuple #[]) ∧ ∃ n d' os, w' = sortWorldK encR 3 w g 0 n d' os ∧ PermIn 0 d.size d d' ∧ SortedIn ltR 0 d.size d' := by
  have HC := Aside0.mk (stableL_calls g cap d w hH hg hn)
  clear hH hg hn
  go_enter Tryz.func69, Tryz.ntmps69
  go_wp2_with fail
  refine HC.out.mono ?_
  rintro e w1 ⟨rfl, hx⟩
  go_wp2
  go_end0
  exact ⟨rfl, hx⟩
set_option maxRecDepth 100000 in
set_option maxHeartbeats 4000000 in
theorem rowSortL_calls (A0 : Option Addr) (c0 : Nat) (l : List S45) (w : World) (hr : Kd.C k45 w A0 l.length l) (hl : l.length ≤ 300) (hk : ∀ x, x ∈ l → ∀ y, y ∈ l → (rowKey x).toList = (rowKey y).toList → x = y) :
    Calls Tryz.prog 54 #[.slice A0 l.length c0] w fun e w' => ∃ A c, e = .returned (.slice A l.length c) ∧ Kd.C k45 w' A l.length (insSort rowKey l) ∧ Below w.heap.size w w' ∧ ∀ ad, A = some ad → w.heap.size ≤ ad.block := by
  have hinfo : (Tryz.prog.info? 45).map (fun i => (i.zero, i.size, i.bytes)) = some (some (.agg #[.string ⟨#[]⟩, .int .u64 0, .int .u64 0]), 3, 32) := by kernel_rfl
  have hmk : ∀ W, (Instr.makeSlice 23 (.int .i64 (l.length : Int)) (.int .i64 (l.length : Int))).run Tryz.prog W = .ok (.slice (some ⟨W.heap.size, 0, none⟩) l.length l.length) (W.alloc (.cells (madeCells #[.string ⟨#[]⟩, .int .u64 0, .int .u64 0] (l.length * 3)) 45)) := fun W => by
    obtain ⟨i, hi, hzz⟩ := Option.map_eq_some_iff.1 hinfo
    simp only [Prod.mk.injEq] at hzz
    obtain ⟨hz0, hz1, hz2⟩ := hzz
    have := run_make (P := Tryz.prog) W 23 45 i _ Tryz.underlying23 hi hz0 .i64 .i64 (l.length : Int) (l.length : Int) (by omega) (by omega) (by rw [hz2]; omega) (by omega)
    rw [Int.toNat_natCast, hz1] at this
    exact this
  have hcp : (Builtin.copy_ #[23, 23] 3 #[.slice (some ⟨w.heap.size, 0, none⟩) l.length l.length, .slice A0 l.length c0]).run Tryz.prog (w.alloc (.cells (madeCells #[.string ⟨#[]⟩, .int .u64 0, .int .u64 0] (l.length * 3)) 45)) = .ok (goInt l.length) ((w.alloc (.cells (madeCells #[.string ⟨#[]⟩, .int .u64 0, .int .u64 0] (l.length * 3)) 45)).setRow w.heap.size (flatK encR 3 l.toArray)) := by
    have := CopyK.run_copyK (P := Tryz.prog) (w.alloc (.cells (madeCells #[.string ⟨#[]⟩, .int .u64 0, .int .u64 0] (l.length * 3)) 45)) 23 23 3 45 3 w.heap.size l.length l.length c0 A0 (madeCells #[.string ⟨#[]⟩, .int .u64 0, .int .u64 0] (l.length * 3)) 45 (flatK encR 3 l.toArray).toList Tryz.underlying23 (by kernel_rfl) (heap_alloc_new w _) (by simp) (by rw [Array.length_toList, size_flatK, size_madeCells, List.size_toArray]) (row_cells (Kd.C_alloc hr _)) (flat_one l) (fun _ => by decide)
    rwa [Array.toArray_toList] at this
  have hW2 : (((w.alloc (.cells (madeCells #[.string ⟨#[]⟩, .int .u64 0, .int .u64 0] (l.length * 3)) 45)).setRow w.heap.size (flatK encR 3 l.toArray))).heap[w.heap.size]? = some (.cells (flatK encR 3 l.toArray) 45 (0, 0)) := setRow_heap _ _ _ _ _ _ (heap_alloc_new w _)
  have hB2 : Below w.heap.size w ((w.alloc (.cells (madeCells #[.string ⟨#[]⟩, .int .u64 0, .int .u64 0] (l.length * 3)) 45)).setRow w.heap.size (flatK encR 3 l.toArray)) := RowStore.below_setRow ((Below.refl _ _).alloc (Nat.le_refl _) _) (Nat.le_refl _) _
  generalize (w.alloc (.cells (madeCells #[.string ⟨#[]⟩, .int .u64 0, .int .u64 0] (l.length * 3)) 45)).setRow w.heap.size (flatK encR 3 l.toArray) = w2 at hcp hW2 hB2
  have hH : HoldsK encR 3 w2 w.heap.size 0 l.toArray := fun j hj => by
    rw [size_flatK] at hj
    refine ⟨?_, ?_⟩
    · rw [Nat.zero_add, blk_cell hW2 j, Array.getElem?_eq_getElem (by rw [size_flatK]; exact hj), getElem!_pos _ j (by rw [size_flatK]; exact hj)]; rfl
    · rw [Nat.zero_add]; exact blk_frozen hW2 j
  have hS := sortStableL_calls w.heap.size l.length l.toArray w2 hH (blk_lt hW2) (by simpa using hl)
  have es : l.toArray.size = l.length := by simp
  rw [es] at hS
  have HK := Aside0.mk hk
  clear hk
  have HS := Aside0.mk hS
  have HH := Aside0.mk hH
  have HB := Aside0.mk hB2
  have HW := Aside0.mk (blk_lt hW2)
  clear hr hinfo hW2 hB2 hH hS es
  go_enter Tryz.func54, Tryz.ntmps54
  go_wp2_with fail
  refine HS.out.mono ?_
  rintro e w3 ⟨rfl, n, d', os, hx, hpm, hso⟩
  have hlen := (insSort_sorts rowKey l).1
  have hins : d' = (insSort rowKey l).toArray := by
    have hsz : d'.toList.length = l.length := by have := hpm.1; simpa using this
    obtain ⟨p1, o1⟩ := ordered_of rowKey l d'.toList hsz (by rw [Array.toArray_toList]; exact hpm) (by rw [Array.toArray_toList]; exact hso)
    obtain ⟨_, p2, o2⟩ := insSort_sorts rowKey l
    have e := ordered_unique rowKey d'.toList (insSort rowKey l) (p1.trans p2.symm) o1 o2 (fun x hx y hy => HK.out x (p1.mem_iff.1 hx) y (p1.mem_iff.1 hy))
    rw [← e, Array.toArray_toList]
  rw [hins] at hx
  have hh := holdsK_sortWorldK_c encR 3 w2 w.heap.size 0 l.toArray (insSort rowKey l).toArray n os HH.out HW.out (by simpa using hlen)
  rw [← hx] at hh
  have hC := rowHolds_reads (by omega) hh
  rw [hlen] at hC
  have hB3 : Below w.heap.size w w3 := by
    rw [hx]
    refine HB.out.trans ⟨rfl, rfl, rfl, ?_, fun k hk => ?_⟩
    · show w2.heap.size ≤ ((w2.heap.modify w.heap.size _) ++ os).size
      rw [Array.size_append, Array.size_modify]; omega
    · show ((w2.heap.modify w.heap.size _) ++ os)[k]? = w2.heap[k]?
      have := HW.out
      rw [Array.getElem?_append_left (by rw [Array.size_modify]; omega), Array.getElem?_modify, if_neg (by omega)]
  have HC3 := Aside0.mk hC
  have HB3 := Aside0.mk hB3
  clear hx hh hC hB3 hins hlen hpm hso
  go_wp2
  go_ret
  exact ⟨_, _, rfl, HC3.out, HB3.out, fun ad e => by cases e; exact Nat.le_refl _⟩
/-- Rows that row.Sort's contract serves. -/
def Sortable (l : List S45) : Prop := l.length < 20 ∨ (l.length ≤ 300 ∧ ∀ x, x ∈ l → ∀ y, y ∈ l → (rowKey x).toList = (rowKey y).toList → x = y)
theorem Sortable.len {l : List S45} (h : Sortable l) : l.length ≤ 300 := by rcases h with h | h <;> omega
theorem rowSortS_calls (A0 : Option Addr) (c0 : Nat) (l : List S45) (w : World) (hr : Kd.C k45 w A0 l.length l) (hl : Sortable l) :
    Calls Tryz.prog 54 #[.slice A0 l.length c0] w fun e w' => ∃ A c, e = .returned (.slice A l.length c) ∧ Kd.C k45 w' A l.length (insSort rowKey l) ∧ Below w.heap.size w w' ∧ ∀ ad, A = some ad → w.heap.size ≤ ad.block := by
  rcases hl with h | ⟨h1, h2⟩
  · exact rowSort_calls A0 c0 l w hr h
  · exact rowSortL_calls A0 c0 l w hr h1 h2
end Go.Proofs.YtfijhbfdkcajjaaGreatDoor.Pr
