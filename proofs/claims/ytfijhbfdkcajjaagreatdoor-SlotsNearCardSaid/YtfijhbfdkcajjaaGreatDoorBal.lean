/- The contracts of wide's And, Plus. -/
import Derived.Test.YtfijhbfdkcajjaaGreatDoorPrx0
import Derived.Test.YtfijhbfdkcajjaaGreatDoorShaAll
import Derived.Shelf.Spec.BitsCarry
namespace Go.Proofs.YtfijhbfdkcajjaaGreatDoor.Pr
open Go.RowKit Go.Proofs.YtfijhbfdkcajjaaGreatDoorW.PrintWords Go.Proofs.YtfijhbfdkcajjaaGreatDoorW.PrintLast Go.Proofs.YtfijhbfdkcajjaaGreatDoorW.PrintMore Go.Shelf
set_option linter.unusedVariables false
set_option linter.unusedSimpArgs false
theorem add64_run (x y c : Nat) (hc : c ≤ 1) (w : World) :
    (callFunc 110 #[.int .u64 x, .int .u64 y, .int .u64 c]).run Tryz.prog w =
      .ok (.value (.tuple #[.int .u64 (((x + y + c) % 18446744073709551616 : Nat) : Int), .int .u64 (((x + y + c) / 18446744073709551616 : Nat) : Int)])) w := by
  rw [run_callFunc_extern Tryz.func110 (by kernel_rfl) (by kernel_rfl) (by kernel_rfl) (e := add64Entry) (by kernel_rfl), run_add64 x y c (by omega) (by omega) (by omega) (by omega)]
  simp only [Result.andThen]
  congr 5 <;> omega
/-- A sum: its high word, and its two low ones. -/
structure W3 where
  h : Nat
  hi : Nat
  lo : Nat
def W3.cells (x : W3) : Array Value := #[.int .u64 (x.h : Int), .int .u64 (x.hi : Int), .int .u64 (x.lo : Int)]
def W3.ok (x : W3) : Prop := x.h < 18446744073709551616 ∧ x.hi < 18446744073709551616 ∧ x.lo < 18446744073709551616
def andX (x y : W3) : W3 :=
  let c1 := (x.lo + y.lo + 0) / 18446744073709551616
  let c2 := (x.hi + y.hi + c1) / 18446744073709551616
  let o := (x.h + y.h + c2) / 18446744073709551616
  ⟨if o = 0 then (x.h + y.h + c2) % 18446744073709551616 else 18446744073709551615, (x.hi + y.hi + c1) % 18446744073709551616, (x.lo + y.lo + 0) % 18446744073709551616⟩
set_option maxRecDepth 100000 in
set_option maxHeartbeats 4000000 in
theorem and_calls (x y : W3) (hx : x.ok) (hy : y.ok) (w : World) : Calls Tryz.prog 90 #[.agg x.cells, .agg y.cells] w fun e w' => e = .returned (.agg (andX x y).cells) ∧ Below w.heap.size w w' := by
  obtain ⟨a0, a1, a2⟩ := x
  obtain ⟨b0, b1, b2⟩ := y
  obtain ⟨hx0, hx1, hx2⟩ := hx
  obtain ⟨hy0, hy1, hy2⟩ := hy
  simp only at hx0 hx1 hx2 hy0 hy1 hy2
  have r1 : ∀ w, (callFunc 110 #[.int .u64 (a2 : Int), .int .u64 (b2 : Int), .int .u64 0]).run Tryz.prog w = .ok (.value (.tuple #[.int .u64 (((a2 + b2 + 0) % 18446744073709551616 : Nat) : Int), .int .u64 (((a2 + b2 + 0) / 18446744073709551616 : Nat) : Int)])) w := fun w => add64_run a2 b2 0 (by decide) w
  obtain ⟨c1, hc1⟩ : ∃ c, (a2 + b2 + 0) / 18446744073709551616 = c := ⟨_, rfl⟩
  have hc1' : c1 ≤ 1 := by omega
  have r2 := add64_run a1 b1 c1 hc1'
  obtain ⟨c2, hc2⟩ : ∃ c, (a1 + b1 + c1) / 18446744073709551616 = c := ⟨_, rfl⟩
  have hc2' : c2 ≤ 1 := by omega
  have r3 := add64_run a0 b0 c2 hc2'
  obtain ⟨o, ho⟩ : ∃ c, (a0 + b0 + c2) / 18446744073709551616 = c := ⟨_, rfl⟩
  have ho' : o ≤ 1 := by omega
  rw [hc1] at r1
  rw [hc2] at r2
  rw [ho] at r3
  have HX : Aside0 ((andX ⟨a0, a1, a2⟩ ⟨b0, b1, b2⟩) = ⟨if o = 0 then (a0 + b0 + c2) % 18446744073709551616 else 18446744073709551615, (a1 + b1 + c1) % 18446744073709551616, (a2 + b2 + 0) % 18446744073709551616⟩) := ⟨by unfold andX; simp only [hc1, hc2, ho]⟩
  generalize (a2 + b2 + 0) % 18446744073709551616 = l at r1 HX
  generalize (a1 + b1 + c1) % 18446744073709551616 = m at r2 HX
  generalize (a0 + b0 + c2) % 18446744073709551616 = h at r3 HX
  clear hc1 hc2 ho hx0 hx1 hx2 hy0 hy1 hy2 hc1' hc2'
  rw [HX.out]
  clear HX
  simp only [W3.cells]
  have hI : ∀ x : Array Value, x.size = 3 → (Tryz.prog.info? 86).map (·.size) = some x.size := fun x hx => by rw [hx]; kernel_rfl
  have HI := Aside0.mk hI
  clear hI
  go_enter Tryz.func90, Tryz.ntmps90
  by_cases h0 : o = 0
  · subst h0
    rw [if_pos rfl]
    go_wp2
    have h3 := heap_alloc_new ((w.alloc (.cells #[.int .u64 (a0 : Int), .int .u64 (a1 : Int), .int .u64 (a2 : Int)] 86)).alloc (.cells #[.int .u64 (b0 : Int), .int .u64 (b1 : Int), .int .u64 (b2 : Int)] 86)) (.cells #[.int .u64 (h : Int), .int .u64 (m : Int), .int .u64 (l : Int)] 86)
    rw [World.size_alloc, World.size_alloc] at h3
    have hB : Below w.heap.size w (((w.alloc (.cells #[.int .u64 (a0 : Int), .int .u64 (a1 : Int), .int .u64 (a2 : Int)] 86)).alloc (.cells #[.int .u64 (b0 : Int), .int .u64 (b1 : Int), .int .u64 (b2 : Int)] 86)).alloc (.cells #[.int .u64 (h : Int), .int .u64 (m : Int), .int .u64 (l : Int)] 86)) := (((Below.refl _ _).alloc (Nat.le_refl _) _).alloc (by simp) _).alloc (by simp; omega) _
    refine bodyPost_ret (results_cell_row rfl _ _ (w.heap.size + 1 + 1) 86 #[.int .u64 (h : Int), .int .u64 (m : Int), .int .u64 (l : Int)] (0, 0) _ rfl h3 Tryz.underlying86 rfl (HI.out _ rfl)) rfl ⟨rfl, hB⟩
  · rw [if_neg h0]
    have h1 : o = 1 := by omega
    subst h1
    go_wp2
    have h3 := heap_alloc_new ((w.alloc (.cells #[.int .u64 (a0 : Int), .int .u64 (a1 : Int), .int .u64 (a2 : Int)] 86)).alloc (.cells #[.int .u64 (b0 : Int), .int .u64 (b1 : Int), .int .u64 (b2 : Int)] 86)) (.cells #[.int .u64 18446744073709551615, .int .u64 (m : Int), .int .u64 (l : Int)] 86)
    rw [World.size_alloc, World.size_alloc] at h3
    have hB : Below w.heap.size w (((w.alloc (.cells #[.int .u64 (a0 : Int), .int .u64 (a1 : Int), .int .u64 (a2 : Int)] 86)).alloc (.cells #[.int .u64 (b0 : Int), .int .u64 (b1 : Int), .int .u64 (b2 : Int)] 86)).alloc (.cells #[.int .u64 18446744073709551615, .int .u64 (m : Int), .int .u64 (l : Int)] 86)) := (((Below.refl _ _).alloc (Nat.le_refl _) _).alloc (by simp) _).alloc (by simp; omega) _
    refine bodyPost_ret (results_cell_row rfl _ _ (w.heap.size + 1 + 1) 86 #[.int .u64 18446744073709551615, .int .u64 (m : Int), .int .u64 (l : Int)] (0, 0) _ rfl h3 Tryz.underlying86 rfl (HI.out _ rfl)) rfl ⟨rfl, hB⟩
theorem andX_ok (x y : W3) : (andX x y).ok := by
  unfold andX W3.ok
  refine ⟨?_, Nat.mod_lt _ (by decide), Nat.mod_lt _ (by decide)⟩
  show (if _ then _ else _) < _
  split
  · exact Nat.mod_lt _ (by decide)
  · decide
set_option maxRecDepth 100000 in
theorem of_wcalls (hi lo : Int) (w : World) : Calls Tryz.prog 91 #[.agg #[.int .u64 hi, .int .u64 lo]] w fun e w' => e = .returned (.agg #[.int .u64 0, .int .u64 hi, .int .u64 lo]) ∧ Below w.heap.size w w' := by
  have hI : (Tryz.prog.info? 86).map (·.size) = some (#[.int .u64 0, .int .u64 hi, .int .u64 lo] : Array Value).size := by kernel_rfl
  have HI := Aside0.mk hI
  clear hI
  go_enter Tryz.func91, Tryz.ntmps91
  go_wp2
  have h3 := heap_alloc_new (w.alloc (.cells #[.int .u64 hi, .int .u64 lo] 39)) (.cells #[.int .u64 0, .int .u64 hi, .int .u64 lo] 86)
  rw [World.size_alloc] at h3
  refine bodyPost_ret (results_cell_row rfl _ _ (w.heap.size + 1) 86 #[.int .u64 0, .int .u64 hi, .int .u64 lo] (0, 0) _ rfl h3 Tryz.underlying86 rfl HI.out) rfl ⟨rfl, ((Below.refl _ _).alloc (Nat.le_refl _) _).alloc (by simp) _⟩
set_option maxRecDepth 100000 in
set_option maxHeartbeats 4000000 in
theorem plus_calls (x : W3) (hx : x.ok) (hi lo : Nat) (h1 : hi < 18446744073709551616) (h2 : lo < 18446744073709551616) (w : World) : Calls Tryz.prog 68 #[.agg x.cells, .agg #[.int .u64 (hi : Int), .int .u64 (lo : Int)]] w fun e w' => e = .returned (.agg (andX x ⟨0, hi, lo⟩).cells) ∧ Below w.heap.size w w' := by
  have HA : Aside0 (∀ W, Calls Tryz.prog 90 #[.agg x.cells, .agg #[.int .u64 0, .int .u64 (hi : Int), .int .u64 (lo : Int)]] W fun e w' => e = .returned (.agg (andX x ⟨0, hi, lo⟩).cells) ∧ Below W.heap.size W w') := ⟨fun W => and_calls x ⟨0, hi, lo⟩ hx ⟨(by decide : (0 : Nat) < 18446744073709551616), h1, h2⟩ W⟩
  generalize andX x ⟨0, hi, lo⟩ = y at HA ⊢
  obtain ⟨x0, x1, x2⟩ := x
  clear hx h1 h2
  simp only [W3.cells] at HA ⊢
  go_enter Tryz.func68, Tryz.ntmps68
  have HB0 : Aside0 (Below w.heap.size w (((w.alloc (.cells #[.int .u64 (x0 : Int), .int .u64 (x1 : Int), .int .u64 (x2 : Int)] 86)).alloc (.cells #[.int .u64 (hi : Int), .int .u64 (lo : Int)] 39)).alloc (.cells #[.int .u64 0, .int .u64 0, .int .u64 0] 86))) := ⟨(((Below.refl _ _).alloc (Nat.le_refl _) _).alloc (by simp) _).alloc (by simp; omega) _⟩
  have h1 := blk_new w (.cells #[.int .u64 (x0 : Int), .int .u64 (x1 : Int), .int .u64 (x2 : Int)] 86 (0, 0))
  have h3 := heap_alloc_new ((w.alloc (.cells #[.int .u64 (x0 : Int), .int .u64 (x1 : Int), .int .u64 (x2 : Int)] 86)).alloc (.cells #[.int .u64 (hi : Int), .int .u64 (lo : Int)] 39)) (.cells #[.int .u64 0, .int .u64 0, .int .u64 0] 86)
  rw [World.size_alloc, World.size_alloc] at h3
  have H3 := Aside0.mk h3
  have H1 : Aside0 ((((w.alloc (.cells #[.int .u64 (x0 : Int), .int .u64 (x1 : Int), .int .u64 (x2 : Int)] 86)).alloc (.cells #[.int .u64 (hi : Int), .int .u64 (lo : Int)] 39)).alloc (.cells #[.int .u64 0, .int .u64 0, .int .u64 0] 86)).heap[w.heap.size]? = some (.cells #[.int .u64 (x0 : Int), .int .u64 (x1 : Int), .int .u64 (x2 : Int)] 86 (0, 0))) := ⟨(Below.heap_alloc _ _ _ (by simp; omega)).trans ((Below.heap_alloc _ _ _ (by simp)).trans h1)⟩
  have h2 := heap_alloc_new (w.alloc (.cells #[.int .u64 (x0 : Int), .int .u64 (x1 : Int), .int .u64 (x2 : Int)] 86)) (.cells #[.int .u64 (hi : Int), .int .u64 (lo : Int)] 39)
  rw [World.size_alloc] at h2
  have H2 : Aside0 ((((w.alloc (.cells #[.int .u64 (x0 : Int), .int .u64 (x1 : Int), .int .u64 (x2 : Int)] 86)).alloc (.cells #[.int .u64 (hi : Int), .int .u64 (lo : Int)] 39)).alloc (.cells #[.int .u64 0, .int .u64 0, .int .u64 0] 86)).heap[w.heap.size + 1]? = some (.cells #[.int .u64 (hi : Int), .int .u64 (lo : Int)] 39 (0, 0))) := ⟨(Below.heap_alloc _ _ _ (by simp)).trans h2⟩
  clear h1 h2 h3
  go_wp2_with fail
  generalize ((w.alloc (.cells #[.int .u64 (x0 : Int), .int .u64 (x1 : Int), .int .u64 (x2 : Int)] 86)).alloc (.cells #[.int .u64 (hi : Int), .int .u64 (lo : Int)] 39)).alloc (.cells #[.int .u64 0, .int .u64 0, .int .u64 0] 86) = wq at HB0 H1 H2 H3 ⊢
  have x0' : ∀ W, Below wq.heap.size wq W → W.cell? ⟨w.heap.size, 0, none⟩ = some (.int .u64 (x0 : Int)) := fun W hb => blk_cell (blk_below H1.out hb) 0
  have x1' : ∀ W, Below wq.heap.size wq W → W.cell? ⟨w.heap.size, 1, none⟩ = some (.int .u64 (x1 : Int)) := fun W hb => blk_cell (blk_below H1.out hb) 1
  have x2' : ∀ W, Below wq.heap.size wq W → W.cell? ⟨w.heap.size, 2, none⟩ = some (.int .u64 (x2 : Int)) := fun W hb => blk_cell (blk_below H1.out hb) 2
  have X0 := Aside0.mk x0'
  have X1 := Aside0.mk x1'
  have X2 := Aside0.mk x2'
  have y0 : wq.cell? ⟨w.heap.size + 1, 0, none⟩ = some (.int .u64 (hi : Int)) := blk_cell H2.out 0
  have y1 : wq.cell? ⟨w.heap.size + 1, 1, none⟩ = some (.int .u64 (lo : Int)) := blk_cell H2.out 1
  have z0 := x0' wq (Below.refl _ _)
  have z1 := x1' wq (Below.refl _ _)
  have z2 := x2' wq (Below.refl _ _)
  clear x0' x1' x2'
  go_region_with (first
    | (go_at_call 91; refine (of_wcalls _ _ _).mono ?_; rintro e w2 ⟨rfl, hb2⟩; have hq2 : Below wq.heap.size wq w2 := (by first | exact (below_drew1 (Below.refl _ _)).trans hb2 | exact (pw_below_drewN (Below.refl _ _) _).trans hb2 | exact hb2); have u0 := X0.out w2 hq2; have u1 := X1.out w2 hq2; have u2 := X2.out w2 hq2; have HQ2 := Aside0.mk hq2; clear hb2 hq2)
    | (go_at_call 90; refine (HA.out _).mono ?_; rintro e w3 ⟨rfl, hb3⟩; have HQ3 : Aside0 (Below w.heap.size w w3) := ⟨HB0.out.trans ((HQ2.out.mono HB0.out.size).trans (hb3.mono (HB0.out.trans (HQ2.out.mono HB0.out.size)).size))⟩; have hr3 := blk_below (blk_below H3.out HQ2.out) hb3; have t0 := blk_cell hr3 0; have t1 := blk_cell hr3 1; have t2 := blk_cell hr3 2; have g0 := blk_frozen hr3 0; have g1 := blk_frozen hr3 1; have g2 := blk_frozen hr3 2; have HR3 := Aside0.mk hr3; clear hr3))
  all_goals (go_wp2; refine bodyPost_ret (results_cell_row rfl _ _ (w.heap.size + 1 + 1) 86 #[.int .u64 (y.h : Int), .int .u64 (y.hi : Int), .int .u64 (y.lo : Int)] (0, 0) _ rfl (heap_setCell_same _ _ 2 _ _ (.int .u64 (y.lo : Int)) (heap_setCell_same _ _ 1 _ _ (.int .u64 (y.hi : Int)) (heap_setCell_same w3 _ 0 _ _ (.int .u64 (y.h : Int)) HR3.out))) Tryz.underlying86 rfl (by kernel_rfl)) rfl ⟨rfl, ((HQ3.out.setCell (by show w.heap.size ≤ w.heap.size + 1 + 1; omega) _).setCell (by show w.heap.size ≤ w.heap.size + 1 + 1; omega) _).setCell (by show w.heap.size ≤ w.heap.size + 1 + 1; omega) _⟩)
/-- The sum of numbers. -/
def sumX (l : List S39) : W3 := l.foldl (fun x a => andX x ⟨0, a.f0.toNat, a.f1.toNat⟩) ⟨0, 0, 0⟩
def OkU (a : S39) : Prop := (0 ≤ a.f0 ∧ a.f0 < 18446744073709551616) ∧ (0 ≤ a.f1 ∧ a.f1 < 18446744073709551616)
instance (a : S39) : Decidable (OkU a) := by unfold OkU; infer_instance
theorem sumX_ok (l : List S39) : (sumX l).ok := by
  unfold sumX
  suffices h : ∀ (l : List S39) (x : W3), x.ok → (l.foldl (fun x a => andX x ⟨0, a.f0.toNat, a.f1.toNat⟩) x).ok from h l _ ⟨by decide, by decide, by decide⟩
  intro l
  induction l with
  | nil => intro x hx; exact hx
  | cons a l ih => intro x hx; exact ih _ (andX_ok _ _)
theorem sumX_snoc (l : List S39) (a : S39) : sumX (l ++ [a]) = andX (sumX l) ⟨0, a.f0.toNat, a.f1.toNat⟩ := by
  unfold sumX
  rw [List.foldl_append]
  rfl
set_option maxRecDepth 100000 in
set_option maxHeartbeats 4000000 in
theorem wsum_calls (A : Option Addr) (c : Nat) (l : List S39) (w : World) (hr : Kd.C k39 w A l.length l) (hl : l.length ≤ 100000) (hok : ∀ a, a ∈ l → OkU a) :
    Calls Tryz.prog 52 #[.slice A l.length c] w fun e w' => e = .returned (.agg (sumX l).cells) ∧ Below w.heap.size w w' := by
  have HR : Aside0 (∀ W, Below w.heap.size w W → Kd.C k39 W A l.length l) := ⟨fun W hb => Kd.C_below hr hb⟩
  have HOK := Aside0.mk hok
  clear hr hok
  go_enter Tryz.func52, Tryz.ntmps52
  go_wp2_with fail
  have HS0 : Aside0 (((w.alloc (.cells #[.int .u64 0, .int .u64 0, .int .u64 0] 86)).alloc (.cells #[.int .u64 0, .int .u64 0, .int .u64 0] 86)).heap[w.heap.size]? = some (.cells #[.int .u64 0, .int .u64 0, .int .u64 0] 86 (0, 0))) := ⟨(Below.heap_alloc _ _ _ (by simp)).trans (blk_new w _)⟩
  have h2 := heap_alloc_new (w.alloc (.cells #[.int .u64 0, .int .u64 0, .int .u64 0] 86)) (.cells #[.int .u64 0, .int .u64 0, .int .u64 0] 86)
  rw [World.size_alloc] at h2
  have HS1 : Aside0 (((w.alloc (.cells #[.int .u64 0, .int .u64 0, .int .u64 0] 86)).alloc (.cells #[.int .u64 0, .int .u64 0, .int .u64 0] 86)).heap[w.heap.size + 1]? = some (.cells (sumX (l.take 0)).cells 86 (0, 0))) := ⟨h2⟩
  have HB0 : Aside0 (Below w.heap.size w ((w.alloc (.cells #[.int .u64 0, .int .u64 0, .int .u64 0] 86)).alloc (.cells #[.int .u64 0, .int .u64 0, .int .u64 0] 86))) := ⟨((Below.refl _ _).alloc (Nat.le_refl _) _).alloc (by simp) _⟩
  clear h2
  go_loopw [9] (fun v9 wr => ∃ i : Nat, v9 = .int .i64 (i : Int) ∧ i ≤ l.length ∧ Aside0 (wr.heap[w.heap.size]? = some (.cells #[.int .u64 0, .int .u64 0, .int .u64 0] 86 (0, 0))) ∧ Aside0 (wr.heap[w.heap.size + 1]? = some (.cells (sumX (l.take i)).cells 86 (0, 0))) ∧ Aside0 (Below w.heap.size w wr)) (fun v9 _ => l.length - (intOf v9).toNat)
  case atStart => exact ⟨0, rfl, by omega, HS0, HS1, HB0⟩
  case round =>
    obtain ⟨i, rfl, hi, H0, H1, HB⟩ := hrel
    clear HS0 HS1 HB0
    by_cases hlt : i < l.length
    · have d0 : decide ((i : Int) < (l.length : Int)) = true := decide_eq_true (by omega)
      have i1 : (i : Int) < (l.length : Int) := by omega
      have i2 : (0 : Int) ≤ (i : Int) := by omega
      obtain ⟨ad, rfl, e0, e1⟩ := at_T39 (HR.out _ HB.out) (i : Int) i2 i1
      have hrd : rd_T39 l (i : Int) = l[i] := by simp [rd_T39, hlt]
      rw [hrd, Int.toNat_natCast] at e0 e1
      have hokI := HOK.out _ (List.getElem_mem hlt)
      have HSN : Aside0 (sumX (l.take (i + 1)) = andX (sumX (l.take i)) ⟨0, (l[i]).f0.toNat, (l[i]).f1.toNat⟩) := ⟨by rw [List.take_succ_eq_append_getElem hlt, sumX_snoc]⟩
      have hso := sumX_ok (l.take i)
      generalize l[i] = a at e0 e1 hokI HSN
      generalize sumX (l.take i) = x at H1 HSN hso
      obtain ⟨hi0, lo0⟩ := a
      obtain ⟨⟨q0, q1⟩, ⟨q2, q3⟩⟩ := hokI
      simp only at e0 e1 q0 q1 q2 q3
      obtain ⟨hi', rfl⟩ := Int.eq_ofNat_of_zero_le q0
      obtain ⟨lo', rfl⟩ := Int.eq_ofNat_of_zero_le q2
      have HP : Aside0 (∀ W, Calls Tryz.prog 68 #[.agg x.cells, .agg #[.int .u64 (hi' : Int), .int .u64 (lo' : Int)]] W fun e w' => e = .returned (.agg (sumX (l.take (i + 1))).cells) ∧ Below W.heap.size W w') := ⟨fun W => by
        rw [HSN.out]
        exact plus_calls x hso hi' lo' (by omega) (by omega) W⟩
      clear q0 q1 q2 q3 hrd hso
      obtain ⟨x0, x1, x2⟩ := x
      have hG : w.heap.size + 1 < wr.heap.size := blk_lt H1.out
      have HG := Aside0.mk hG
      have H1a : Aside0 ((wr.alloc (.cells #[.int .u64 (hi' : Int), .int .u64 (lo' : Int)] 39)).heap[w.heap.size + 1]? = some (.cells (W3.cells ⟨x0, x1, x2⟩) 86 (0, 0))) := ⟨(Below.heap_alloc _ _ _ hG).trans H1.out⟩
      have H0a : Aside0 ((wr.alloc (.cells #[.int .u64 (hi' : Int), .int .u64 (lo' : Int)] 39)).heap[w.heap.size]? = some (.cells #[.int .u64 0, .int .u64 0, .int .u64 0] 86 (0, 0))) := ⟨(Below.heap_alloc _ _ _ (by omega)).trans H0.out⟩
      have HBa : Aside0 (Below w.heap.size w (wr.alloc (.cells #[.int .u64 (hi' : Int), .int .u64 (lo' : Int)] 39))) := ⟨HB.out.alloc HB.out.size _⟩
      have HE : Aside0 ((wr.alloc (.cells #[.int .u64 (hi' : Int), .int .u64 (lo' : Int)] 39)).heap[wr.heap.size]? = some (.cells #[.int .u64 (hi' : Int), .int .u64 (lo' : Int)] 39 (0, 0))) := ⟨heap_alloc_new wr _⟩
      have k0 : (wr.alloc (.cells #[.int .u64 (hi' : Int), .int .u64 (lo' : Int)] 39)).cell? ⟨w.heap.size + 1, 0, none⟩ = some (.int .u64 (x0 : Int)) := blk_cell H1a.out 0
      have k1 : (wr.alloc (.cells #[.int .u64 (hi' : Int), .int .u64 (lo' : Int)] 39)).cell? ⟨w.heap.size + 1, 1, none⟩ = some (.int .u64 (x1 : Int)) := blk_cell H1a.out 1
      have k2 : (wr.alloc (.cells #[.int .u64 (hi' : Int), .int .u64 (lo' : Int)] 39)).cell? ⟨w.heap.size + 1, 2, none⟩ = some (.int .u64 (x2 : Int)) := blk_cell H1a.out 2
      have k3 : (wr.alloc (.cells #[.int .u64 (hi' : Int), .int .u64 (lo' : Int)] 39)).cell? ⟨wr.heap.size, 0, none⟩ = some (.int .u64 (hi' : Int)) := blk_cell HE.out 0
      have k4 : (wr.alloc (.cells #[.int .u64 (hi' : Int), .int .u64 (lo' : Int)] 39)).cell? ⟨wr.heap.size, 1, none⟩ = some (.int .u64 (lo' : Int)) := blk_cell HE.out 1
      clear hG
      have HP2 : Aside0 (∀ W, Calls Tryz.prog 68 #[.agg #[.int .u64 (x0 : Int), .int .u64 (x1 : Int), .int .u64 (x2 : Int)], .agg #[.int .u64 (hi' : Int), .int .u64 (lo' : Int)]] W fun e w' => e = .returned (.agg (sumX (l.take (i + 1))).cells) ∧ Below W.heap.size W w') := ⟨HP.out⟩
      clear HP HSN HR HOK H0 H1
      generalize hy : sumX (l.take (i + 1)) = y at HP2
      have HY := Aside0.mk hy
      clear hy
      go_wp2_with fail
      with_reducible refine (HP2.out _).mono ?_
      rintro en w3 ⟨rfl, hb3⟩
      have H1b := Aside0.mk (blk_below H1a.out hb3)
      have H0b := Aside0.mk (blk_below H0a.out hb3)
      have HBb : Aside0 (Below w.heap.size w w3) := ⟨HBa.out.trans (hb3.mono HBa.out.size)⟩
      have hz2 : 0 + y.cells.size ≤ (W3.cells ⟨x0, x1, x2⟩).size := Nat.le_refl 3
      have hi2 : (Tryz.prog.info? 86).map (·.size) = some y.cells.size := by kernel_rfl
      have ho2 : y.cells.all (·.oneCell') = true := by simp [W3.cells, Value.oneCell']
      clear hb3 H1a H0a HBa HE k0 k1 k2 k3 k4 e0 e1 HP2
      go_wp2_with ((with_reducible refine RowStore.wpList_store rfl 86 _ _ rfl (w.heap.size + 1) 0 y.cells rfl rfl 86 (W3.cells ⟨x0, x1, x2⟩) H1b.out hz2 hi2 ho2 ?_))
      have hrelI : Aside0 (∃ i' : Nat, Value.int .i64 ((i : Int) + 1) = .int .i64 (i' : Int) ∧ i' ≤ l.length ∧ Aside0 ((w3.setRow (w.heap.size + 1) (RowStore.lay (W3.cells ⟨x0, x1, x2⟩) 0 y.cells)).heap[w.heap.size]? = some (.cells #[.int .u64 0, .int .u64 0, .int .u64 0] 86 (0, 0))) ∧ Aside0 ((w3.setRow (w.heap.size + 1) (RowStore.lay (W3.cells ⟨x0, x1, x2⟩) 0 y.cells)).heap[w.heap.size + 1]? = some (.cells (sumX (l.take i')).cells 86 (0, 0))) ∧ Aside0 (Below w.heap.size w (w3.setRow (w.heap.size + 1) (RowStore.lay (W3.cells ⟨x0, x1, x2⟩) 0 y.cells)))) := ⟨⟨i + 1, by go_num, by omega, ⟨(setRow_other _ _ _ _ (by omega)).trans H0b.out⟩, ⟨by rw [HY.out]; exact RowStore.heap_all H1b.out rfl⟩, ⟨RowStore.below_setRow HBb.out (by omega) _⟩⟩⟩
      go_roundw
      case rel => first | exact hrelI.out | ((repeat apply Exists.intro); exact ⟨hrelI.out, rfl⟩)
      case measure => simp [intOf]; omega
    · have d0 : decide ((i : Int) < (l.length : Int)) = false := decide_eq_false (by omega)
      obtain rfl : i = l.length := by omega
      rw [List.take_of_length_le (Nat.le_refl _)] at H1
      obtain ⟨y, hy⟩ : ∃ y, sumX l = y := ⟨_, rfl⟩
      rw [hy] at H1
      have HY := Aside0.mk hy
      clear HR HOK hlt hi hy
      have hi2 : (Tryz.prog.info? 86).map (·.size) = some y.cells.size := by kernel_rfl
      have ho2 : y.cells.all (·.oneCell') = true := by simp [W3.cells, Value.oneCell']
      have hz2 : 0 + y.cells.size ≤ (#[.int .u64 0, .int .u64 0, .int .u64 0] : Array Value).size := Nat.le_refl 3
      go_wp2_with (first | (with_reducible refine wpList_load_row rfl 86 _ rfl (w.heap.size + 1) rfl 86 y.cells (0, 0) _ H1.out Tryz.underlying86 rfl hi2 ?_) | (with_reducible refine RowStore.wpList_store rfl 86 _ _ rfl w.heap.size 0 y.cells rfl rfl 86 #[.int .u64 0, .int .u64 0, .int .u64 0] H0.out hz2 hi2 ho2 ?_))
      refine bodyPost_ret (results_cell_row rfl _ _ w.heap.size 86 y.cells (0, 0) _ rfl (RowStore.heap_all H0.out rfl) Tryz.underlying86 rfl hi2) rfl ⟨by rw [HY.out], RowStore.below_setRow HB.out (Nat.le_refl _) _⟩
def wide_Balanced.f (l0 l1 : List S39) : Option Bool := if (l0.length ≤ 100000 ∧ l1.length ≤ 100000) ∧ ((∀ a, a ∈ l0 → OkU a) ∧ ∀ a, a ∈ l1 → OkU a) then some (decide ((sumX l0).h = (sumX l1).h ∧ (sumX l0).hi = (sumX l1).hi ∧ (sumX l0).lo = (sumX l1).lo)) else none
set_option maxRecDepth 100000 in
set_option maxHeartbeats 4000000 in
theorem wide_Balanced.calls (A0 : Option Addr) (c0 : Nat) (l0 : List S39) (A1 : Option Addr) (c1 : Nat) (l1 : List S39) (r : Bool) (w : World) (hr0 : Kd.C k39 w A0 l0.length l0) (hc0 : l0.length ≤ c0) (hr1 : Kd.C k39 w A1 l1.length l1) (hc1 : l1.length ≤ c1) (h : wide_Balanced.f l0 l1 = some r) :
    Calls Tryz.prog 24 #[.slice A0 l0.length c0, .slice A1 l1.length c1] w fun e w' => e = .returned (.bool r) ∧ Below w.heap.size w w' := by
  unfold wide_Balanced.f at h
  by_cases hc : (l0.length ≤ 100000 ∧ l1.length ≤ 100000) ∧ ((∀ a, a ∈ l0 → OkU a) ∧ ∀ a, a ∈ l1 → OkU a)
  · rw [if_pos hc] at h
    obtain ⟨⟨n0, n1⟩, o0, o1⟩ := hc
    have hh := (Option.some.inj h).symm
    have HA : Aside0 (Calls Tryz.prog 52 #[.slice A0 l0.length c0] w fun e w' => e = .returned (.agg (sumX l0).cells) ∧ Below w.heap.size w w') := ⟨wsum_calls A0 c0 l0 w hr0 n0 o0⟩
    have HB : Aside0 (∀ W, Below w.heap.size w W → Calls Tryz.prog 52 #[.slice A1 l1.length c1] W fun e w' => e = .returned (.agg (sumX l1).cells) ∧ Below W.heap.size W w') := ⟨fun W hb => wsum_calls A1 c1 l1 W (Kd.C_below hr1 hb) n1 o1⟩
    clear h o0 o1 hr0 hr1 hc0 hc1 n0 n1
    generalize sumX l0 = x at HA hh
    generalize sumX l1 = y at HB hh
    obtain ⟨x0, x1, x2⟩ := x
    obtain ⟨y0, y1, y2⟩ := y
    simp only [W3.cells] at HA HB
    subst hh
    go_enter Tryz.func24, Tryz.ntmps24
    go_wp2_with fail
    refine HA.out.mono ?_
    rintro e w1 ⟨rfl, hb1⟩
    have HB1 := Aside0.mk hb1
    clear hb1
    go_wp2_with fail
    refine (HB.out _ HB1.out).mono ?_
    rintro e w2 ⟨rfl, hb2⟩
    have HB2 : Aside0 (Below w.heap.size w w2) := ⟨HB1.out.trans (hb2.mono HB1.out.size)⟩
    clear hb2
    go_wp2
    all_goals (go_ret; refine ⟨?_, HB2.out⟩; first | exact congrArg (fun b => Ending.returned (.bool b)) (decide_eq_true (by omega)).symm | exact congrArg (fun b => Ending.returned (.bool b)) (decide_eq_false (by omega)).symm)
  · rw [if_neg hc] at h; cases h
end Go.Proofs.YtfijhbfdkcajjaaGreatDoor.Pr
