/- The contract of row.Sort, of fewer than twenty rows. -/
import Derived.Test.YtfijhbfdkcajjaaGreatDoorShR
import Derived.Test.YtfijhbfdkcajjaaGreatDoorSortKey
import Derived.Test.YtfijhbfdkcajjaaGreatDoorCopyK
import Derived.Test.YtfijhbfdkcajjaaGreatDoorPrx0
import Derived.LoopTactic
import Derived.Laws.Cover1
namespace Go.Proofs.YtfijhbfdkcajjaaGreatDoor.Pr
open Go.RowKit Go.Proofs.YtfijhbfdkcajjaaGreatDoorW.PrintWords Go.Proofs.YtfijhbfdkcajjaaGreatDoorW.PrintLast Go.Proofs.YtfijhbfdkcajjaaGreatDoorW.PrintMore Go.SortKey Go.Shelf Go.Sort Go.Lib
set_option linter.unusedVariables false
set_option linter.unusedSimpArgs false
instance : Inhabited S45 := ⟨z45⟩
def rowKey (x : S45) : ByteArray := x.f0
def encR (x : S45) : List Value := [.string x.f0, .int .u64 x.f1.f0, .int .u64 x.f1.f1]
theorem encR_len (x : S45) : (encR x).length = 3 := rfl
theorem encR_one (x : S45) : ∀ v ∈ encR x, v.oneCell' = true := by intro v hv; simp [encR] at hv; rcases hv with rfl | rfl | rfl <;> rfl
theorem nanS_calls (x : ByteArray) (W : World) : Calls Tryz.prog 57 #[.string x] W fun e w' => e = .returned (.bool false) ∧ w' = W := by
  go_enter Tryz.func57, Tryz.ntmps57
  go_wp2
  go_ret
  exact ⟨by simp, rfl⟩
def cmpI (x y : ByteArray) : Int := if Op.bytesLess x.toList y.toList = true then -1 else if Op.bytesLess y.toList x.toList = true then 1 else 0
set_option maxHeartbeats 1000000 in
theorem cmpS_calls (x y : ByteArray) (W : World) : Calls Tryz.prog 32 #[.string x, .string y] W fun e w' => e = .returned (.int .i64 (cmpI x y)) ∧ w' = W := by
  unfold cmpI
  cases h1 : Op.bytesLess x.toList y.toList with
  | true =>
    rw [if_pos rfl]
    go_enter Tryz.func32, Tryz.ntmps32
    go_wp2_with (go_at_call 57; refine (nanS_calls _ _).mono ?_; rintro e w' ⟨rfl, rfl⟩)
    go_ret
    exact ⟨rfl, rfl⟩
  | false =>
    rw [if_neg (by simp)]
    cases h2 : Op.bytesLess y.toList x.toList with
    | true =>
      rw [if_pos rfl]
      have h3 : (x.toList == y.toList) = false := by
        apply beq_false_of_ne
        intro e
        rw [e] at h2
        rw [bl_irrefl] at h2
        cases h2
      go_enter Tryz.func32, Tryz.ntmps32
      go_wp2_with (go_at_call 57; refine (nanS_calls _ _).mono ?_; rintro e w' ⟨rfl, rfl⟩)
      go_ret
      exact ⟨rfl, rfl⟩
    | false =>
      rw [if_neg (by simp)]
      have h3 : (x.toList == y.toList) = true := by rw [bl_total h1 h2]; exact beq_self_eq_true _
      go_enter Tryz.func32, Tryz.ntmps32
      go_wp2_with (go_at_call 57; refine (nanS_calls _ _).mono ?_; rintro e w' ⟨rfl, rfl⟩)
      go_ret
      exact ⟨rfl, rfl⟩
set_option maxHeartbeats 1000000 in
theorem rowCmp_calls (x y : S45) (W : World) : Calls Tryz.prog 70 #[.agg #[.string x.f0, .int .u64 x.f1.f0, .int .u64 x.f1.f1], .agg #[.string y.f0, .int .u64 y.f1.f0, .int .u64 y.f1.f1]] W fun e w' => e = .returned (.int .i64 (keyCmp rowKey x y)) ∧ ∃ q os', w' = Go.Sort.grow (W.drewN q) os' := by
  have hcon := fun W' => cmpS_calls x.f0 y.f0 W'
  have e : keyCmp rowKey x y = cmpI x.f0 y.f0 := rfl
  rw [e]
  generalize cmpI x.f0 y.f0 = r at hcon ⊢
  go_enter Tryz.func70, Tryz.ntmps70
  go_wp2_with (go_at_call 32; refine (hcon _).mono ?_; rintro e w' ⟨rfl, rfl⟩)
  go_ret
  exact ⟨rfl, 0, _, by rw [Go.Sort.alloc_eq_grow, Go.Sort.alloc_eq_grow, Go.Sort.grow_grow]; rfl⟩
set_option maxRecDepth 100000 in
set_option maxHeartbeats 4000000 in
theorem stable_calls (g cap : Nat) (d : Array S45) (w : World) (hH : HoldsK encR 3 w g 0 d) (hg : g < w.heap.size) (hn : d.size < 20) :
    Calls Tryz.prog 92 #[.slice (some ⟨g, 0, none⟩) d.size cap, .int .i64 (d.size : Int), .func (.func 70) #[] #[]] w fun e w' => e = .returned (.tuple #[]) ∧ ∃ n os, w' = sortWorldK encR 3 w g 0 n (Go.Sort.insertionSort (ltOf (keyCmp rowKey)) d 0 d.size) os := by
  have eg : ∀ args w, (callFunc 70 args).run Tryz.prog w = .ok (.enter 70 args) w := enters_of Tryz.func70 (by kernel_rfl) rfl
  have HC := Aside0.mk (AnyQ.insertionSortCmpFunc Tryz.insRow 3 Tryz.isAgg45 Tryz.sizeOf45 encR encR_len encR_one (keyCmp rowKey) 70 #[] g 0 cap 0 d.size d w eg (fun m os dk _ x y => rowCmp_calls x y _) hH hg (Nat.zero_le _) (Nat.le_refl _) (by omega))
  have d0 : decide ((20 : Int) ≤ (d.size : Int)) = false := decide_eq_false (by omega)
  have d1 : (d.size : Int) < 20 := by omega
  have d2 : decide ((20 : Int) < (d.size : Int)) = false := decide_eq_false (by omega)
  have d3 : ¬ ((20 : Int) < (d.size : Int)) := by omega
  clear hH hg eg hn
  go_enter Tryz.func92, Tryz.ntmps92
  go_wp2_with fail
  go_loopw [7, 8] (fun v7 v8 wr => v7 = .int .i64 0 ∧ v8 = .int .i64 20 ∧ wr = w) (fun _ _ _ => 0)
  case atStart => exact ⟨rfl, rfl, rfl⟩
  case round =>
    obtain ⟨rfl, rfl, rfl⟩ := hrel
    go_wp2_with fail
    refine HC.out.mono ?_
    rintro e w1 ⟨rfl, hx⟩
    have HX := Aside0.mk hx
    clear hx HC
    go_wp2_with fail
    go_loopw [6] (fun v6 wq => v6 = .int .i64 20 ∧ wq = w1) (fun _ _ => 0)
    case atStart => exact ⟨rfl, rfl⟩
    case round =>
      obtain ⟨rfl, rfl⟩ := hrel
      go_wp2
      go_end0
      exact ⟨rfl, HX.out⟩
set_option maxRecDepth 100000 in
theorem sortStable_calls (g cap : Nat) (d : Array S45) (w : World) (hH : HoldsK encR 3 w g 0 d) (hg : g < w.heap.size) (hn : d.size < 20) :
    Calls Tryz.prog 69 #[.slice (some ⟨g, 0, none⟩) d.size cap, .func (.func 70) #[] #[]] w fun e w' => e = .returned (.tuple #[]) ∧ ∃ n os, w' = sortWorldK encR 3 w g 0 n (Go.Sort.insertionSort (ltOf (keyCmp rowKey)) d 0 d.size) os := by
  have HC := Aside0.mk (stable_calls g cap d w hH hg hn)
  clear hH hg hn
  go_enter Tryz.func69, Tryz.ntmps69
  go_wp2_with fail
  refine HC.out.mono ?_
  rintro e w1 ⟨rfl, hx⟩
  go_wp2
  go_end0
  exact ⟨rfl, hx⟩
theorem rowHolds_reads {W : World} {g : Nat} {l : List S45} (hn : l.length ≤ 100000) (h : HoldsK encR 3 W g 0 l.toArray) : Kd.C k45 W (some ⟨g, 0, none⟩) l.length l := by
  refine ⟨rfl, by omega, fun _ => ⟨_, rfl, fun j p hp => ⟨encR p, rfl, k45_mk W p, fun i u hu => ?_⟩⟩⟩
  obtain ⟨hj, hjp⟩ := List.getElem?_eq_some_iff.1 hp
  have hi : i < 3 := by have := (List.getElem?_eq_some_iff.1 hu).1; simpa [encR] using this
  have ht : j * 3 + i < l.toArray.size * 3 := by rw [List.size_toArray]; omega
  have hc := (h (j * 3 + i) (by rw [size_flatK]; exact ht)).1
  rw [get_flatK encR 3 l.toArray _ ht, show (j * 3 + i) / 3 = j by omega, show (j * 3 + i) % 3 = i by omega, getElem!_pos l.toArray j (by simpa using hj)] at hc
  have e : (encR p)[i]! = u := by
    rw [getElem!_pos (encR p) i (by rw [encR_len]; exact hi)]
    exact (List.getElem?_eq_some_iff.1 hu).2
  have e2 : l.toArray[j]'(by simpa using hj) = p := by simpa using hjp
  rw [e2, e, Nat.zero_add] at hc
  show W.cell? ((⟨g, 0, none⟩ : Addr).add (j * 3 + i)) = some u
  rw [add_plain]
  exact hc
theorem row_cells {W : World} {A : Option Addr} {l : List S45} (h : Kd.C k45 W A l.length l) : ∀ j v, (flatK encR 3 l.toArray).toList[j]? = some v → ∃ ad, A = some ad ∧ W.cell? (ad.add j) = some v := by
  intro j v hv
  have hj : j < l.length * 3 := by
    have := (List.getElem?_eq_some_iff.1 hv).1
    simpa using this
  obtain ⟨ad, hA, hcell⟩ := h.2.2 (by omega)
  refine ⟨ad, hA, ?_⟩
  have hq : j / 3 < l.length := by omega
  obtain ⟨c, hcl, hR, hcc⟩ := hcell (j / 3) l[j / 3] (by simp [hq])
  obtain rfl := k45_open hR
  have hv2 : (flatK encR 3 l.toArray)[j]! = v := by
    obtain ⟨h1, h2⟩ := List.getElem?_eq_some_iff.1 hv
    rw [getElem!_pos _ j (by simpa using h1)]
    simpa using h2
  rw [get_flatK encR 3 l.toArray j (by simpa using hj), getElem!_pos l.toArray (j / 3) (by simpa using hq)] at hv2
  have e2 : l.toArray[j / 3]'(by simpa using hq) = l[j / 3] := by simp
  rw [e2] at hv2
  have hr : j % 3 < (encR l[j / 3]).length := by rw [encR_len]; omega
  have := hcc (j % 3) v (by
    rw [getElem!_pos (encR l[j / 3]) (j % 3) hr] at hv2
    rw [← hv2]
    exact List.getElem?_eq_getElem hr)
  have e3 : j / 3 * k45.sz + j % 3 = j := by show j / 3 * 3 + j % 3 = j; omega
  rwa [e3] at this
theorem flat_one (l : List S45) : ∀ v ∈ (flatK encR 3 l.toArray).toList, v.oneCell' = true := by
  intro v hv
  unfold flatK at hv
  simp only [Array.toList_map, List.mem_map] at hv
  obtain ⟨t, ht, rfl⟩ := hv
  have hr : t % 3 < (encR l.toArray[t / 3]!).length := by rw [encR_len]; omega
  rw [getElem!_pos _ (t % 3) hr]
  exact encR_one _ _ (List.getElem_mem hr)
set_option maxRecDepth 100000 in
set_option maxHeartbeats 4000000 in
theorem rowSort_calls (A0 : Option Addr) (c0 : Nat) (l : List S45) (w : World) (hr : Kd.C k45 w A0 l.length l) (hl : l.length < 20) :
    Calls Tryz.prog 54 #[.slice A0 l.length c0] w fun e w' => ∃ A c, e = .returned (.slice A l.length c) ∧ Kd.C k45 w' A l.length (insSort rowKey l) ∧ Below w.heap.size w w' ∧ ∀ ad, A = some ad → w.heap.size ≤ ad.block := by
  have hinfo : (Tryz.prog.info? 45).map (fun i => (i.zero, i.size, i.bytes)) = some (some (.agg #[.string ⟨#[]⟩, .int .u64 0, .int .u64 0]), 3, 32) := by kernel_rfl
  have hmk : ∀ W, (Instr.makeSlice 23 (.int .i64 (l.length : Int)) (.int .i64 (l.length : Int))).run Tryz.prog W = .ok (.slice (some ⟨W.heap.size, 0, none⟩) l.length l.length) (W.alloc (.cells (madeCells #[.string ⟨#[]⟩, .int .u64 0, .int .u64 0] (l.length * 3)) 45)) := fun W => by
    obtain ⟨i, hi, hzz⟩ := Option.map_eq_some_iff.1 hinfo
    simp only [Prod.mk.injEq] at hzz
    obtain ⟨hz0, hz1, hz2⟩ := hzz
    have := run_make (P := Tryz.prog) W 23 45 i _ Tryz.underlying23 hi hz0 .i64 .i64 (l.length : Int) (l.length : Int) (by omega) (by omega) (by rw [hz2]; omega) (by omega)
    rw [Int.toNat_natCast, hz1] at this
    exact this
  have hcp : (Builtin.copy_ #[23, 23] 3 #[.slice (some ⟨w.heap.size, 0, none⟩) l.length l.length, .slice A0 l.length c0]).run Tryz.prog (w.alloc (.cells (madeCells #[.string ⟨#[]⟩, .int .u64 0, .int .u64 0] (l.length * 3)) 45)) = .ok (goInt l.length) ((w.alloc (.cells (madeCells #[.string ⟨#[]⟩, .int .u64 0, .int .u64 0] (l.length * 3)) 45)).setRow w.heap.size (flatK encR 3 l.toArray)) := by
    have := CopyK.run_copyK (P := Tryz.prog) (w.alloc (.cells (madeCells #[.string ⟨#[]⟩, .int .u64 0, .int .u64 0] (l.length * 3)) 45)) 23 23 3 45 3 w.heap.size l.length l.length c0 A0 (madeCells #[.string ⟨#[]⟩, .int .u64 0, .int .u64 0] (l.length * 3)) 45 (flatK encR 3 l.toArray).toList Tryz.underlying23 (by kernel_rfl) (heap_alloc_new w _) (by simp) (by rw [Array.length_toList, size_flatK, size_madeCells, List.size_toArray]) (row_cells (Kd.C_alloc hr _)) (flat_one l) (fun _ => by decide)
    rwa [Array.toArray_toList] at this
  have hW2 : (((w.alloc (.cells (madeCells #[.string ⟨#[]⟩, .int .u64 0, .int .u64 0] (l.length * 3)) 45)).setRow w.heap.size (flatK encR 3 l.toArray))).heap[w.heap.size]? = some (.cells (flatK encR 3 l.toArray) 45 (0, 0)) := setRow_heap _ _ _ _ _ _ (heap_alloc_new w _)
  have hB2 : Below w.heap.size w ((w.alloc (.cells (madeCells #[.string ⟨#[]⟩, .int .u64 0, .int .u64 0] (l.length * 3)) 45)).setRow w.heap.size (flatK encR 3 l.toArray)) := RowStore.below_setRow ((Below.refl _ _).alloc (Nat.le_refl _) _) (Nat.le_refl _) _
  generalize (w.alloc (.cells (madeCells #[.string ⟨#[]⟩, .int .u64 0, .int .u64 0] (l.length * 3)) 45)).setRow w.heap.size (flatK encR 3 l.toArray) = w2 at hcp hW2 hB2
  have hH : HoldsK encR 3 w2 w.heap.size 0 l.toArray := fun j hj => by
    rw [size_flatK] at hj
    refine ⟨?_, ?_⟩
    · rw [Nat.zero_add, blk_cell hW2 j, Array.getElem?_eq_getElem (by rw [size_flatK]; exact hj), getElem!_pos _ j (by rw [size_flatK]; exact hj)]; rfl
    · rw [Nat.zero_add]; exact blk_frozen hW2 j
  have hS := sortStable_calls w.heap.size l.length l.toArray w2 hH (blk_lt hW2) (by simpa using hl)
  have es : l.toArray.size = l.length := by simp
  rw [es] at hS
  have HS := Aside0.mk hS
  have HH := Aside0.mk hH
  have HB := Aside0.mk hB2
  have HW := Aside0.mk (blk_lt hW2)
  clear hr hinfo hW2 hB2 hH hS es
  go_enter Tryz.func54, Tryz.ntmps54
  go_wp2_with fail
  refine HS.out.mono ?_
  rintro e w3 ⟨rfl, n, os, hx⟩
  have hlen := (insSort_sorts rowKey l).1
  have hins : Go.Sort.insertionSort (ltOf (keyCmp rowKey)) l.toArray 0 l.length = (insSort rowKey l).toArray := by simp [insSort]
  rw [hins] at hx
  have hh := holdsK_sortWorldK_c encR 3 w2 w.heap.size 0 l.toArray (insSort rowKey l).toArray n os HH.out HW.out (by simpa using hlen)
  rw [← hx] at hh
  have hC := rowHolds_reads (by omega) hh
  rw [hlen] at hC
  have hB3 : Below w.heap.size w w3 := by
    rw [hx]
    refine HB.out.trans ⟨rfl, rfl, rfl, ?_, fun k hk => ?_⟩
    · show w2.heap.size ≤ ((w2.heap.modify w.heap.size _) ++ os).size
      rw [Array.size_append, Array.size_modify]; omega
    · show ((w2.heap.modify w.heap.size _) ++ os)[k]? = w2.heap[k]?
      have := HW.out
      rw [Array.getElem?_append_left (by rw [Array.size_modify]; omega), Array.getElem?_modify, if_neg (by omega)]
  have HC3 := Aside0.mk hC
  have HB3 := Aside0.mk hB3
  clear hx hh hC hB3 hins hlen
  go_wp2
  go_ret
  exact ⟨_, _, rfl, HC3.out, HB3.out, fun ad e => by cases e; exact Nat.le_refl _⟩
end Go.Proofs.YtfijhbfdkcajjaaGreatDoor.Pr
