/- The contract of slots.rowed. -/
import Derived.Test.YtfijhbfdkcajjaaGreatDoorMay
import Derived.Test.YtfijhbfdkcajjaaGreatDoorRSort
namespace Go.Proofs.YtfijhbfdkcajjaaGreatDoor.Pr
open Go.RowKit Go.Proofs.YtfijhbfdkcajjaaGreatDoorW.PrintWords Go.Proofs.YtfijhbfdkcajjaaGreatDoorW.PrintLast Go.Proofs.YtfijhbfdkcajjaaGreatDoorW.PrintMore
set_option linter.unusedVariables false
set_option linter.unusedSimpArgs false
def keyRS (x : S45) : Lit := .string x.f0.data.toList
theorem keyRS_eq (x y : S45) : keyRS x = keyRS y ↔ decide (x.f0 = y.f0) = true := by
  unfold keyRS
  rw [decide_eq_true_iff]
  constructor
  · intro h; injection h with h; exact byteArray_inj h
  · intro h; rw [h]
def okRow (l : List S45) (i : Nat) : Bool := match l[i]? with
  | none => true
  | some x => mayIdB x.f0 && !((l.take i).any fun y => decide (y.f0 = x.f0))
def rowedFrom (l : List S45) : Nat → Nat → Bool
  | 0, _ => true
  | d + 1, i => okRow l i && rowedFrom l d (i + 1)
set_option maxHeartbeats 4000000 in
set_option maxRecDepth 100000 in
theorem rowed_calls (A : Option Addr) (c : Nat) (l : List S45) (w : World) (hGT : GTab w) (hr : Kd.C k45 w A l.length l) (hl : l.length ≤ 100000) (hs : ∀ x, x ∈ l → x.f0.size ≤ 1000) :
    Calls Tryz.prog 26 #[.slice A l.length c] w fun e w' => e = .returned (.bool (rowedFrom l l.length 0)) ∧ Below w.heap.size w w' := by
  have hmm := @run_makeMap Tryz.prog
  have HR := Aside0.mk hr
  have HS := Aside0.mk hs
  have HG := Aside0.mk hGT
  clear hr hs hGT
  obtain ⟨r, hR⟩ : ∃ r, rowedFrom l l.length 0 = r := ⟨_, rfl⟩
  rw [hR]
  have HA0 : Aside0 (rowedFrom l (l.length - 0) 0 = r) := ⟨hR⟩
  clear hR
  go_enter Tryz.func26, Tryz.ntmps26
  go_wp2
  go_loopw [9] (fun v9 wr => ∃ (i : Nat), v9 = .int .i64 (i : Int) ∧ i ≤ l.length ∧ Aside0 (CntMap 9 wr w.heap.size i (cntK keyRS (l.take i))) ∧ Aside0 (Below w.heap.size w wr) ∧ Aside0 (rowedFrom l (l.length - i) i = r)) (fun v9 _ => l.length - (intOf v9).toNat)
  case atStart => exact ⟨0, rfl, Nat.zero_le _, ⟨by rw [List.take_zero, cntK_nil]; exact CntMap.made 9 w⟩, ⟨(Below.refl _ _).alloc (Nat.le_refl _) _⟩, HA0⟩
  case round =>
    obtain ⟨i, rfl, hi, HC, HB, HA⟩ := hrel
    clear HA0
    by_cases hlt : i < l.length
    · have c0 : decide ((i : Int) < (l.length : Int)) = true := decide_eq_true (by omega)
      obtain ⟨ad, hA, x0, x1, x2⟩ := at_T45 HR.out (i : Int) (by omega) (by omega)
      subst hA
      replace x0 := (HB.out.cell (World.block_lt_of_cell? w _ x0)).trans x0
      replace x1 := (HB.out.cell (World.block_lt_of_cell? w _ x1)).trans x1
      replace x2 := (HB.out.cell (World.block_lt_of_cell? w _ x2)).trans x2
      rw [Int.toNat_natCast] at x0 x1 x2
      have hmem : rd_T45 l (i : Int) = l[i] := by simp [rd_T45, hlt]
      have hsx := HS.out l[i] (List.getElem_mem hlt)
      have hstep := cntK_step keyRS l i hlt
      have hgS := cntK_gt keyRS l i hlt (fun x y => decide (x.f0 = y.f0)) keyRS_eq
      have hAs := HA.out
      rw [show l.length - i = (l.length - (i + 1)) + 1 by omega, rowedFrom, okRow, List.getElem?_eq_getElem hlt] at hAs
      simp only at hAs
      rw [← hstep] at hgS
      generalize (l.take i).any (fun y => decide (y.f0 = (l[i]).f0)) = dup at hgS hAs
      generalize hcn0 : cntK keyRS (l.take i) = cn at hstep HC hgS
      clear hcn0
      rw [hmem] at x0 x1 x2
      generalize l[i] = x at x0 x1 x2 hsx hstep hgS hAs
      have hkey : keyOf Tryz.prog 9 (.string x.f0) = some (keyRS x) := WideMaps.keyOf_string_mk Tryz.underlying9 (by unfold maxLen; omega)
      have hlt2 : (i : Int) < (l.length : Int) := by omega
      obtain ⟨W1, hW1⟩ : ∃ W1, W1 = wr.alloc (.cells #[.string x.f0, .int .u64 x.f1.f0, .int .u64 x.f1.f1] 45) := ⟨_, rfl⟩
      have hb1 : Below wr.heap.size wr W1 := by rw [hW1]; exact (Below.refl _ _).alloc (Nat.le_refl _) _
      have HC1 := HC.out.below hb1
      have hBx : W1.heap[wr.heap.size]? = some (.cells #[.string x.f0, .int .u64 x.f1.f0, .int .u64 x.f1.f1] 45 (0, 0)) := by rw [hW1]; exact heap_alloc_new wr _
      have hlook := HC1.look lawS Tryz.underlying77 hkey
      obtain ⟨W2, hup, HC2, hg⟩ := HC1.step lawS Tryz.underlying77 (by omega) hkey (by simp [WideAt.IsKeyLit, keyRS]) rfl
      have hcn := (show cn (keyRS x) ≤ i by obtain ⟨_, _, _, h, _⟩ := HC.out; exact h _)
      have hmB : w.heap.size < wr.heap.size := HC.out.lt
      have hBx2 : W2.heap[wr.heap.size]? = some (.cells #[.string x.f0, .int .u64 x.f1.f0, .int .u64 x.f1.f1] 45 (0, 0)) := (hg.block _ (blk_lt hBx) (by intro e; injection e with e; omega)).trans hBx
      have HBX2 := Aside0.mk hBx2
      have HB2 : Aside0 (Below w.heap.size w W2) := ⟨(HB.out.trans (hb1.mono HB.out.size)).grown hg (Nat.le_trans HB.out.size hb1.size) (fun k hk => by cases hk; exact Nat.le_refl _)⟩
      have HC3 : Aside0 (∀ W, Below W2.heap.size W2 W → CntMap 9 W w.heap.size (i + 1) (cntK keyRS (l.take (i + 1)))) := ⟨fun W hb => by rw [← hstep]; exact HC2.below hb⟩
      have HL3 : Aside0 (∀ W, Below W2.heap.size W2 W → (Instr.lookup 77 (.map (some w.heap.size)) (.string x.f0) false).run Tryz.prog W = .ok (.int .i64 ((bump cn (keyRS x) (keyRS x) : Nat) : Int)) W) := ⟨fun W hb => (HC2.below hb).look lawS Tryz.underlying77 hkey⟩
      have HM : Aside0 (∀ W, GTab W → Calls Tryz.prog 45 #[.string x.f0] W fun e w' => e = .returned (.bool (mayIdB x.f0)) ∧ Below W.heap.size W w') := ⟨fun W hT => tag_MayId.calls x.f0 _ W hT (by unfold tag_MayId.f; rw [if_pos hsx])⟩
      have hwr : IntKind.i64.wrap ((cn (keyRS x) : Int) + 1) = (cn (keyRS x) : Int) + 1 := by simp [IntKind.wrap, IntKind.bits, IntKind.signed]; omega
      generalize ((bump cn (keyRS x) (keyRS x) : Nat) : Int) = m2 at HL3 hgS
      generalize ((cn (keyRS x) : Nat) : Int) = m at hlook hup hwr
      have hz : W2.cell? ⟨wr.heap.size, 0, none⟩ = some (.string x.f0) := blk_cell hBx2 0
      rw [hW1] at hlook hup
      clear hkey HC1 HC2 hg hb1 hW1 hstep HC hBx hBx2 HA HR HS hmem hcn
      cases hmi : mayIdB x.f0 with
      | false =>
        rw [hmi] at hAs HM
        simp only [Bool.false_and] at hAs
        subst hAs
        go_wp2_with (go_at_call 45; refine (HM.out _ (GTab.below HG.out HB2.out)).mono ?_; rintro e w3 ⟨rfl, hb3⟩; have HB3 : Aside0 (Below w.heap.size w w3) := ⟨HB2.out.trans (hb3.mono HB2.out.size)⟩)
        go_ret
        exact ⟨rfl, HB3.out⟩
      | true =>
        rw [hmi] at hAs HM
        simp only [Bool.true_and] at hAs
        cases dup with
        | true =>
          simp only [Bool.not_true, Bool.false_and] at hAs
          subst hAs
          have hm2 : (1 : Int) < m2 := of_decide_eq_true hgS
          go_wp2_with (go_at_call 45; refine (HM.out _ (GTab.below HG.out HB2.out)).mono ?_; rintro e w3 ⟨rfl, hb3⟩; have HB3 : Aside0 (Below w.heap.size w w3) := ⟨HB2.out.trans (hb3.mono HB2.out.size)⟩; have hl3 := HL3.out w3 hb3; have hz3 : w3.cell? ⟨wr.heap.size, 0, none⟩ = some (.string x.f0) := blk_cell (blk_below HBX2.out hb3) 0; clear hb3)
          go_ret
          exact ⟨rfl, HB3.out⟩
        | false =>
          simp only [Bool.not_false, Bool.true_and] at hAs
          have hm2 : ¬ ((1 : Int) < m2) := of_decide_eq_false hgS
          have HAS := Aside0.mk hAs
          clear hAs
          go_wp2_with (go_at_call 45; refine (HM.out _ (GTab.below HG.out HB2.out)).mono ?_; rintro e w3 ⟨rfl, hb3⟩; have HB3 : Aside0 (Below w.heap.size w w3) := ⟨HB2.out.trans (hb3.mono HB2.out.size)⟩; have hl3 := HL3.out w3 hb3; have hz3 : w3.cell? ⟨wr.heap.size, 0, none⟩ = some (.string x.f0) := blk_cell (blk_below HBX2.out hb3) 0; have HC4 := Aside0.mk (HC3.out w3 hb3); clear hb3)
          go_roundw
          case rel => first | exact ⟨i + 1, by go_num, by omega, HC4, HB3, HAS⟩ | ((repeat apply Exists.intro); exact ⟨⟨i + 1, by go_num, by omega, HC4, HB3, HAS⟩, rfl⟩)
          case measure => simp [intOf]; omega
    · have c0 : decide ((i : Int) < (l.length : Int)) = false := decide_eq_false (by omega)
      have hnl : ¬ (i : Int) < (l.length : Int) := by omega
      have hAs := HA.out
      rw [show l.length - i = 0 by omega, rowedFrom] at hAs
      subst hAs
      go_wp2
      go_ret
      exact ⟨rfl, HB.out⟩
end Go.Proofs.YtfijhbfdkcajjaaGreatDoor.Pr
