/- The contracts of slots.coming and its iterator. -/
import Derived.Test.YtfijhbfdkcajjaaGreatDoorRowed
import Derived.Test.YtfijhbfdkcajjaaGreatDoorSymAll
import Derived.Test.YtfijhbfdkcajjaaGreatDoorShaAll
import Derived.LoopTactic
import Derived.Outline
import Derived.OwnWalkIn
import Derived.TacticsInMore
import Derived.LoopNIn
import Derived.LoopIn
import Derived.RangeFuncCalls
import Derived.RangeFuncOwn
import Derived.Sort.LoopGhostIn
import Derived.Shelf.Abstract
namespace Go.Proofs.YtfijhbfdkcajjaaGreatDoor.Pr
open Go.RowKit Go.Proofs.YtfijhbfdkcajjaaGreatDoorW.PrintWords Go.Proofs.YtfijhbfdkcajjaaGreatDoorW.PrintLast Go.Proofs.YtfijhbfdkcajjaaGreatDoorW.PrintMore Go.IterLaw Go.SortKey
set_option linter.unusedVariables false
set_option linter.unusedSimpArgs false
attribute [local go_sem] Oper.semAt_some
def encY (x : S45) : Array Value := #[.agg #[.string x.f0, .int .u64 x.f1.f0, .int .u64 x.f1.f1]]
/-- Has a row's Id an account? -/
def hadB (was : List S41) (x : S45) : Bool := (was.find? (isId x.f0)).isSome
def comingL (was : List S41) (R : List S45) : List S45 := R.filter fun x => !hadB was x
theorem comingL_snoc (was : List S41) (R : List S45) (i : Nat) (h : i < R.length) : comingL was (R.take (i + 1)) = comingL was (R.take i) ++ (if hadB was R[i] = true then [] else [R[i]]) := by
  unfold comingL
  rw [List.take_succ_eq_append_getElem h, List.filter_append]
  congr 1
  rw [List.filter_cons, List.filter_nil]
  cases hadB was R[i] <;> rfl
theorem comingL_pre (was : List S41) (R : List S45) (i : Nat) : comingL was (R.take i) <+: comingL was R := by
  unfold comingL
  exact (List.take_prefix i R).filter _
theorem rowC_other {W W' : World} {A : Option Addr} {n : Nat} {l : List S45} (h : Kd.C k45 W A n l) (hk : ∀ ad, A = some ad → 0 < n → W'.heap[ad.block]? = W.heap[ad.block]?) : Kd.C k45 W' A n l := by
  refine ⟨h.1, h.2.1, fun hn => ?_⟩
  obtain ⟨ad, e, hc⟩ := h.2.2 hn
  refine ⟨ad, e, fun j p hp => ?_⟩
  obtain ⟨c, hcl, hR, hcc⟩ := hc j p hp
  obtain rfl := k45_open hR
  refine ⟨encR p, rfl, k45_mk W' p, fun i u hu => ?_⟩
  have := hcc i u hu
  have hb : ∀ m, (ad.add m).block = ad.block := fun m => by unfold Addr.add; split <;> rfl
  unfold World.cell? at this ⊢
  rw [hb, hk ad e hn, ← hb (j * k45.sz + i)]
  exact this
set_option maxRecDepth 100000 in
theorem coming_calls (Aw : Option Addr) (nw cw : Nat) (Ar : Option Addr) (nr cr : Nat) (w : World) : Calls Tryz.prog 28 #[.slice Aw nw cw, .slice Ar nr cr] w fun e w' =>
    e = .returned (.func (.func 53) #[] #[.pointer (some ⟨w.heap.size + 1, 0, none⟩), .pointer (some ⟨w.heap.size, 0, none⟩)]) ∧ w' = (w.alloc (.cells #[.slice Aw nw cw] 22)).alloc (.cells #[.slice Ar nr cr] 23) := by
  go_enter Tryz.func28, Tryz.ntmps28
  go_wp2
  go_ret
  exact ⟨rfl, rfl⟩
set_option maxRecDepth 100000 in
set_option maxHeartbeats 4000000 in
theorem coming1_calls (was : List S41) (rows : List S45) (hr20s : Sortable rows) (hwl : was.length ≤ 100000) (Aw : Option Addr) (cw : Nat) (Ar : Option Addr) (cr : Nat) (hcw : was.length ≤ cw)
    (l n0 m : Nat) (J Jx : List S45 → (Nat → Prop) → World → Prop) (aJ : AbidesI J) (hY : RoundI Tryz.prog l encY n0 (fun q => q <+: comingL was (insSort rowKey rows)) J Jx) (Pv : Nat → Prop) (W : World) (B1 B2 : Nat) (hJ : J [] Pv W) (hn0 : n0 ≤ W.heap.size) (hB2 : Pv B2)
    (hrow : Kd.C k45 W Ar rows.length rows) (hwas : ∀ W', Below n0 W W' → Kd.C k41 W' Aw was.length was)
    (h1 : W.heap[B1]? = some (.cells #[.slice Ar rows.length cr] 23 (0, 0))) (h2 : W.heap[B2]? = some (.cells #[.slice Aw was.length cw] 22 (0, 0))) :
    CallsIn Fence.wide m Tryz.prog 53 #[.func (.yield l) #[] #[], .pointer (some ⟨B1, 0, none⟩), .pointer (some ⟨B2, 0, none⟩)] W (EndsI n0 J Jx [] (comingL was (insSort rowKey rows)) Pv W) := by
  have hr20 := hr20s.len
  obtain ⟨hlenR, hpermR, _⟩ := insSort_sorts rowKey rows
  have HRS : Aside0 (Calls Tryz.prog 54 #[.slice Ar rows.length cr] W fun e w' => ∃ A c, e = .returned (.slice A rows.length c) ∧ Kd.C k45 w' A rows.length (insSort rowKey rows) ∧ Below W.heap.size W w' ∧ ∀ ad, A = some ad → W.heap.size ≤ ad.block) := ⟨rowSortS_calls Ar cr rows W hrow hr20s⟩
  generalize insSort rowKey rows = R at hlenR HRS hY ⊢
  have x1 : W.cell? ⟨B1, 0, none⟩ = some (.slice Ar rows.length cr) := (blk_cell h1 0).trans rfl
  have HW := Aside0.mk hwas
  clear hrow hwas hpermR
  refine callsIn_of_wp Tryz.func53 rfl trivial ?_
  simp only [Tryz.ntmps53, List.size_toArray, List.length_cons, List.length_nil, Nat.reduceAdd, Nat.reduceSub, Array.replicate_succ, Array.replicate_zero, List.push_toArray, List.append_toArray, List.nil_append, List.cons_append]
  gi_wp2_with fail
  refine ⟨trivial, room1, callsIn_wide.2 (HRS.out.mono ?_)⟩
  rintro e W1 ⟨A, c, rfl, hC, hb, hAb⟩
  have HC0 := Aside0.mk hC
  have HB0 : Aside0 (Below n0 W W1) := ⟨hb.mono hn0⟩
  have HJ0 := Aside0.mk (aJ _ _ _ _ _ hJ (Its.of_below_own hb))
  have HPv : Aside0 ((∀ k, Pv k → (fun k => Pv k ∨ (W.heap.size ≤ k ∧ k < W1.heap.size)) k) ∧ ∀ ad, A = some ad → 0 < rows.length → (fun k => Pv k ∨ (W.heap.size ≤ k ∧ k < W1.heap.size)) ad.block) := ⟨fun _ h => .inl h, fun ad e hn => .inr ⟨hAb ad e, by
    obtain ⟨ad', e', hcell⟩ := hC.2.2 hn
    rw [e] at e'
    cases e'
    obtain ⟨cc, hcl, hR, hcc⟩ := hcell 0 R[0] (by rw [List.getElem?_eq_getElem (by omega)])
    obtain rfl := k45_open hR
    have h0 := hcc 0 _ rfl
    rw [Nat.zero_mul] at h0
    exact World.block_lt_of_cell? W1 ad h0⟩⟩
  have h2' := blk_below h2 hb
  have H2 := Aside0.mk h2'
  clear hC hb hAb HRS x1 h1 h2 h2' hJ
  have HLR := Aside0.mk hlenR
  clear hlenR
  gi_wp2_with fail
  gi_loopg [11] rows.length (fun k v11 wr => ∃ (i : Nat) (Pv' : Nat → Prop), v11 = .int .i64 (i : Int) ∧ i + k = rows.length ∧ Aside0 (J (comingL was (R.take i)) Pv' wr) ∧ Aside0 ((∀ k, Pv k → Pv' k) ∧ ∀ ad, A = some ad → 0 < rows.length → Pv' ad.block) ∧ Aside0 (Below n0 W wr) ∧ Aside0 (Kd.C k45 wr A rows.length R) ∧ Aside0 (wr.heap[B2]? = some (.cells #[.slice Aw was.length cw] 22 (0, 0))))
  case atStart => exact ⟨0, _, rfl, by omega, ⟨HJ0.out⟩, HPv, HB0, HC0, H2⟩
  case round =>
    obtain ⟨i, Pv', rfl, hi, HJ, HP, HB, HC, HB2⟩ := hrel
    clear HJ0 HPv HB0 HC0 H2
    by_cases hlt : i < rows.length
    · have c0 : decide ((i : Int) < (rows.length : Int)) = true := decide_eq_true (by omega)
      have hlt2 : (i : Int) < (rows.length : Int) := by omega
      have hiR : i < R.length := by have := HLR.out; omega
      obtain ⟨ad, hA, y0, y1, y2⟩ := at_T45 HC.out (i : Int) (by omega) hlt2
      subst hA
      rw [Int.toNat_natCast] at y0 y1 y2
      have hmem : rd_T45 R (i : Int) = R[i] := by simp [rd_T45, hiR]
      have hsn := comingL_snoc was R i hiR
      have hpre := comingL_pre was R (i + 1)
      rw [hsn] at hpre
      have HSN := Aside0.mk hsn
      rw [hmem] at y0 y1 y2
      generalize R[i] = x at y0 y1 y2 hpre HSN
      have HPRE := Aside0.mk hpre
      obtain ⟨r1, r2, r3, r4, r5, r6, hf⟩ : ∃ r1 r2 r3 r4 r5 r6, slots_Find.f was x.f0 = some (r1, r2, r3, r4, r5, r6) ∧ r6 = hadB was x := by
        unfold slots_Find.f
        rw [if_pos hwl]
        unfold hadB
        cases was.find? (isId x.f0) <;> exact ⟨_, _, _, _, _, _, rfl, rfl⟩
      obtain ⟨hf, rfl⟩ := hf
      have HF : Aside0 (∀ W', Below n0 W W' → Calls Tryz.prog 16 #[.slice Aw was.length cw, .string x.f0] W' fun e w' => e = .returned (.tuple #[.agg #[.string r1, .int .u64 r2, .int .u64 r3, .string r4, .int .u64 r5], .bool (hadB was x)]) ∧ Below W'.heap.size W' w') := ⟨fun W' hb => slots_Find.calls Aw cw was x.f0 r1 r2 r3 r4 r5 (hadB was x) W' (HW.out W' hb) hcw hf⟩
      have hBa : Below n0 W (wr.alloc (.cells #[.string x.f0, .int .u64 x.f1.f0, .int .u64 x.f1.f1] 45)) := HB.out.alloc (Nat.le_trans hn0 HB.out.size) _
      have z2 : (wr.alloc (.cells #[.string x.f0, .int .u64 x.f1.f0, .int .u64 x.f1.f1] 45)).cell? ⟨B2, 0, none⟩ = some (.slice Aw was.length cw) := (blk_cell ((Below.heap_alloc _ _ _ (blk_lt HB2.out)).trans HB2.out) 0).trans rfl
      have z5 : (wr.alloc (.cells #[.string x.f0, .int .u64 x.f1.f0, .int .u64 x.f1.f1] 45)).heap[wr.heap.size]? = some (.cells #[.string x.f0, .int .u64 x.f1.f0, .int .u64 x.f1.f1] 45 (0, 0)) := heap_alloc_new wr _
      have z50 : (wr.alloc (.cells #[.string x.f0, .int .u64 x.f1.f0, .int .u64 x.f1.f1] 45)).cell? ⟨wr.heap.size, 0, none⟩ = some (.string x.f0) := blk_cell z5 0
      have Z5 := Aside0.mk z5
      have HBa := Aside0.mk hBa
      clear hsn hpre hmem hf z5 hBa
      gi_wp2_with fail
      refine ⟨trivial, room1, callsIn_wide.2 ((HF.out _ HBa.out).mono ?_)⟩
      rintro e w2 ⟨rfl, hb2⟩
      have hbw : Below wr.heap.size wr w2 := ((Below.refl wr.heap.size wr).alloc (Nat.le_refl _) _).trans (hb2.mono (by simp))
      have HBW : Aside0 (Below wr.heap.size wr (w2.alloc (.cells #[.string r1, .int .u64 r2, .int .u64 r3, .string r4, .int .u64 r5] 41))) := ⟨hbw.alloc hbw.size _⟩
      have HBF : Aside0 (Below n0 W (w2.alloc (.cells #[.string r1, .int .u64 r2, .int .u64 r3, .string r4, .int .u64 r5] 41))) := ⟨HB.out.trans (HBW.out.mono (Nat.le_trans hn0 HB.out.size))⟩
      have HJF : Aside0 (J (comingL was (R.take i)) Pv' (w2.alloc (.cells #[.string r1, .int .u64 r2, .int .u64 r3, .string r4, .int .u64 r5] 41))) := ⟨aJ _ _ _ _ _ HJ.out (Its.of_below HBW.out)⟩
      have HCF : Aside0 (Kd.C k45 (w2.alloc (.cells #[.string r1, .int .u64 r2, .int .u64 r3, .string r4, .int .u64 r5] 41)) (some ad) rows.length R) := ⟨Kd.C_below HC.out HBW.out⟩
      have HB2F : Aside0 ((w2.alloc (.cells #[.string r1, .int .u64 r2, .int .u64 r3, .string r4, .int .u64 r5] 41)).heap[B2]? = some (.cells #[.slice Aw was.length cw] 22 (0, 0))) := ⟨blk_below HB2.out HBW.out⟩
      have z6 : (w2.alloc (.cells #[.string r1, .int .u64 r2, .int .u64 r3, .string r4, .int .u64 r5] 41)).heap[wr.heap.size]? = some (.cells #[.string x.f0, .int .u64 x.f1.f0, .int .u64 x.f1.f1] 45 (0, 0)) := (Below.heap_alloc _ _ _ (by have := hb2.size; simp at this; omega)).trans (blk_below Z5.out hb2)
      have q0 : (w2.alloc (.cells #[.string r1, .int .u64 r2, .int .u64 r3, .string r4, .int .u64 r5] 41)).cell? ⟨wr.heap.size, 0, none⟩ = some (.string x.f0) := blk_cell z6 0
      have q1 : (w2.alloc (.cells #[.string r1, .int .u64 r2, .int .u64 r3, .string r4, .int .u64 r5] 41)).cell? ⟨wr.heap.size, 1, none⟩ = some (.int .u64 x.f1.f0) := blk_cell z6 1
      have q2 : (w2.alloc (.cells #[.string r1, .int .u64 r2, .int .u64 r3, .string r4, .int .u64 r5] 41)).cell? ⟨wr.heap.size, 2, none⟩ = some (.int .u64 x.f1.f1) := blk_cell z6 2
      clear hb2 hbw z6 z2 z50 y0 y1 y2 HB HC HB2 HJ Z5 HBa HF
      cases hh : hadB was x with
      | true =>
        rw [hh, if_pos rfl, List.append_nil] at HSN
        have HJ2 : Aside0 (J (comingL was (R.take (i + 1))) Pv' (w2.alloc (.cells #[.string r1, .int .u64 r2, .int .u64 r3, .string r4, .int .u64 r5] 41))) := ⟨by rw [HSN.out]; exact HJF.out⟩
        gi_wp2_with fail
        refine ⟨fun f h => (by cases h), ?_⟩
        gi_wp2_with fail
        gi_roundg (gk - 1)
        case measure => omega
        case rel => first | exact ⟨i + 1, Pv', by go_num, by omega, HJ2, HP, HBF, HCF, HB2F⟩ | ((repeat apply Exists.intro); exact ⟨⟨i + 1, Pv', by go_num, by omega, HJ2, HP, HBF, HCF, HB2F⟩, rfl⟩)
      | false =>
        rw [hh] at HSN HPRE
        rw [if_neg (by simp)] at HSN HPRE
        obtain ⟨fn, tmps, assign, body, hy, hR⟩ := hY (m - 1) (comingL was (R.take i)) x Pv' (w2.alloc (.cells #[.string r1, .int .u64 r2, .int .u64 r3, .string r4, .int .u64 r5] 41)) HPRE.out HJF.out
        dsimp only [encY] at hy
        gi_wp2_with fail
        refine ⟨room1, hR.mono ?_⟩
        rintro e W' ⟨hk2, ⟨rfl, hh2⟩ | ⟨rfl, hh2⟩⟩
        · have HB3 : Aside0 (Below n0 W W') := ⟨HBF.out.trans hk2.below⟩
          have HB23 : Aside0 (W'.heap[B2]? = some (.cells #[.slice Aw was.length cw] 22 (0, 0))) := ⟨(hk2.same B2 (HP.out.1 B2 hB2) (blk_lt HB2F.out)).trans HB2F.out⟩
          have HC3 : Aside0 (Kd.C k45 W' (some ad) rows.length R) := ⟨rowC_other HCF.out (fun a e hn => hk2.same _ (HP.out.2 a e hn) (by
            obtain ⟨ad', e', hcell⟩ := HCF.out.2.2 hn
            rw [e] at e'
            cases e'
            obtain ⟨cc, hcl, hR2, hcc⟩ := hcell 0 R[0] (by rw [List.getElem?_eq_getElem (by have := HLR.out; omega)])
            obtain rfl := k45_open hR2
            have h0 := hcc 0 _ rfl
            rw [Nat.zero_mul] at h0
            exact World.block_lt_of_cell? (w2.alloc (.cells #[.string r1, .int .u64 r2, .int .u64 r3, .string r4, .int .u64 r5] 41)) a h0))⟩
          have HJ3 : Aside0 (J (comingL was (R.take (i + 1))) Pv' W') := ⟨by rw [HSN.out]; exact hh2⟩
          clear hh2 hR hk2
          gi_wp2_with fail
          gi_roundg (gk - 1)
          case measure => omega
          case rel => first | exact ⟨i + 1, Pv', by go_num, by omega, HJ3, HP, HB3, HC3, HB23⟩ | ((repeat apply Exists.intro); exact ⟨⟨i + 1, Pv', by go_num, by omega, HJ3, HP, HB3, HC3, HB23⟩, rfl⟩)
        · have HB3 : Aside0 (Below n0 W W') := ⟨HBF.out.trans hk2.below⟩
          have hh3 := Aside0.mk hh2
          clear hh2 hR hk2
          gi_wp2_with fail
          refine bodyPost_ret (results_none rfl _ _ _) rfl ?_
          exact ⟨⟨_, rfl⟩, Pv', HP.out.1, HB3.out, .inr ⟨comingL was (R.take i) ++ [x], HPRE.out, hh3.out⟩⟩
    · have c0 : decide ((i : Int) < (rows.length : Int)) = false := decide_eq_false (by omega)
      have hnl : ¬ (i : Int) < (rows.length : Int) := by omega
      have hJE : J (comingL was R) Pv' wr := by
        have := HJ.out
        rw [List.take_of_length_le (by have := HLR.out; omega)] at this
        exact this
      have HJE := Aside0.mk hJE
      clear hJE
      gi_wp2_with fail
      refine bodyPost_end (results_none rfl _ _ _) rfl ?_
      exact ⟨⟨_, rfl⟩, Pv', HP.out.1, HB.out, .inl HJE.out⟩
end Go.Proofs.YtfijhbfdkcajjaaGreatDoor.Pr
