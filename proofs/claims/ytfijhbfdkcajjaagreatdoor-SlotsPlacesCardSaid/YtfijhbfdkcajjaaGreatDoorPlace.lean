/- The contract of slots.Place, of fewer than twenty rows (under way). -/
import Derived.Test.YtfijhbfdkcajjaaGreatDoorComing
import Derived.Test.YtfijhbfdkcajjaaGreatDoorShaAll
import Derived.Test.YtfijhbfdkcajjaaGreatDoorASort
import Derived.RangeFuncLeaves
namespace Go.Proofs.YtfijhbfdkcajjaaGreatDoor.Pr
open Go.RowKit Go.Proofs.YtfijhbfdkcajjaaGreatDoorW.PrintWords Go.Proofs.YtfijhbfdkcajjaaGreatDoorW.PrintLast Go.Proofs.YtfijhbfdkcajjaaGreatDoorW.PrintMore Go.SortKey Go.IterLaw
set_option linter.unusedVariables false
set_option linter.unusedSimpArgs false
/-- A row whose elements lead to nothing: its blocks are its own one. -/
theorem kd_tight {α : Type} {d : Kd α} {e base : Nat} {ok : Nat → Prop} {w : World} {v : Value} {xs : List α} (hE : d.E = []) (h : d.R e w base ok v xs) : d.R e w base (fun k => some k = v.ownBlock) v xs := by
  obtain ⟨h0, inner, ho, hr⟩ := h
  refine ⟨fun k hk => hk.symm, inner, ho, hr.imp_ (fun p c hp => d.M_mono (fun k hk => ?_) (d.M_bound hp))⟩
  obtain ⟨_, _, _, q, hq, _⟩ := hk
  rw [hE] at hq
  cases hq
/-- Those who stay, with their new balances. -/
def stayL (was : List S41) (rows : List S45) : List S41 := rows.filterMap fun r => (was.find? (isId r.f0)).map fun a => ⟨a.f0, r.f1, a.f2, a.f3⟩
theorem stayL_snoc (was : List S41) (rows : List S45) (i : Nat) (h : i < rows.length) : stayL was (rows.take (i + 1)) = stayL was (rows.take i) ++ (match was.find? (isId (rows[i]).f0) with | some a => [⟨a.f0, (rows[i]).f1, a.f2, a.f3⟩] | none => []) := by
  unfold stayL
  rw [List.take_succ_eq_append_getElem h, List.filterMap_append]
  congr 1
  rw [List.filterMap_cons, List.filterMap_nil]
  cases was.find? (isId (rows[i]).f0) <;> rfl
theorem stayL_len (was : List S41) (rows : List S45) : (stayL was rows).length ≤ rows.length := List.length_filterMap_le _ _
theorem stayL_wf (was : List S41) (rows : List S45) (hww : ∀ x, x ∈ was → (Lit.int .u64 x.f3).wf = true) : ∀ x, x ∈ stayL was rows → (Lit.int .u64 x.f3).wf = true := by
  intro x hx
  unfold stayL at hx
  obtain ⟨r, _, hr⟩ := List.mem_filterMap.1 hx
  obtain ⟨a, ha, rfl⟩ := Option.map_eq_some_iff.1 hr
  exact hww a (List.mem_of_find?_eq_some ha)
/-- The first free slot of an Id, behind these accounts. -/
def slotOf (seed : ByteArray) (h : Nat) (L : List S41) (id : ByteArray) : Int := (freeFrom (isFree L) ((2 ^ h : Nat) : Int) ((Sh.numOf seed (Sh.one1 5 ++ id) % 2 ^ h : Nat) : Int) (2 ^ h) 0).1
def placeStep (seed : ByteArray) (h : Nat) (L : List S41) (x : S45) : List S41 := L ++ [⟨x.f0, x.f1, (Sh.macOf seed (Sh.one1 3 ++ x.f0)).extract 0 16, slotOf seed h L x.f0⟩]
def placeL (seed : ByteArray) (h : Nat) (was : List S41) (rows q : List S45) : List S41 := q.foldl (placeStep seed h) (stayL was rows)
theorem placeL_snoc (seed : ByteArray) (h : Nat) (was : List S41) (rows q : List S45) (x : S45) : placeL seed h was rows (q ++ [x]) = placeStep seed h (placeL seed h was rows q) x := by
  unfold placeL; rw [List.foldl_append]; rfl
theorem placeL_len (seed : ByteArray) (h : Nat) (was : List S41) (rows : List S45) (q : List S45) : (placeL seed h was rows q).length = (stayL was rows).length + q.length := by
  unfold placeL
  suffices hg : ∀ (q : List S45) (L : List S41), (q.foldl (placeStep seed h) L).length = L.length + q.length from hg q _
  intro q
  induction q with
  | nil => intro L; rfl
  | cons x q ih => intro L; rw [List.foldl_cons, ih, placeStep, List.length_append, List.length_singleton, List.length_cons]; omega
theorem comingL_len (was : List S41) (R : List S45) : (comingL was R).length ≤ R.length := List.length_filter_le _ _
theorem zip1 (t : Array Value) (p : Tmp) (v : Value) : (#[p].zip #[v]).foldl (fun t (p, v) => t.setIfInBounds p v) t = t.setIfInBounds p v := by simp
theorem freeFrom_range (f : Int → Bool) (m fr : Int) (hm : 0 < m) : ∀ (d k : Nat), 0 ≤ (freeFrom f m fr d k).1 ∧ (freeFrom f m fr d k).1 < m
  | 0, k => ⟨by simp [freeFrom], by simpa [freeFrom] using hm⟩
  | d + 1, k => by
    rw [freeFrom]
    split
    · exact ⟨Int.emod_nonneg _ (by omega), Int.emod_lt_of_pos _ hm⟩
    · exact freeFrom_range f m fr hm d (k + 1)
theorem cntK_snoc {α : Type} (key : α → Lit) (L : List α) (x : α) : bump (cntK key L) (key x) = cntK key (L ++ [x]) := by
  have h := cntK_step key (L ++ [x]) L.length (by simp)
  have e1 : (L ++ [x]).take L.length = L := by simp
  have e2 : (L ++ [x]).take (L.length + 1) = L ++ [x] := List.take_of_length_le (by simp)
  have e3 : (L ++ [x])[L.length]'(by simp) = x := by simp
  rw [e1, e2, e3] at h
  exact h
set_option maxRecDepth 100000 in
set_option maxHeartbeats 8000000 in
theorem place_ok (seed : ByteArray) (h : Nat) (hh : h ≤ 10) (was : List S41) (rows : List S45) (hs : seed.size ≤ 64) (Aw : Option Addr) (cw : Nat) (Ar : Option Addr) (cr : Nat) (w : World) (hGT : GTab w)
    (hw : Kd.C k41 w Aw was.length was) (hcw : was.length ≤ cw) (hwl : was.length ≤ 100000) (hww : ∀ x, x ∈ was → (Lit.int .u64 x.f3).wf = true) (hr : Kd.C k45 w Ar rows.length rows) (hr20s : Sortable rows) (hrs : ∀ x, x ∈ rows → x.f0.size ≤ 1000)
    (hmay : slots_May.f was (h : Int) = some true) (hrow : rowedFrom rows rows.length 0 = true) (hm : rows.length ≤ 2 ^ h) :
    Calls Tryz.prog 10 #[.string seed, .int .i64 (h : Int), .slice Aw was.length cw, .slice Ar rows.length cr] w fun e w' => ∃ v0_ : Value, e = .returned (.tuple #[v0_, .int .i64 0]) ∧ Kd.R k41 41 w' w.heap.size (fun _ => True) v0_ (accSort (placeL seed h was rows (comingL was (insSort rowKey rows)))) ∧ Below w.heap.size w w' := by
  have hr20 := hr20s.len
  have HG := Aside0.mk hGT
  have HH : Aside0 (∀ W, Calls Tryz.prog 25 #[.int .i64 (h : Int)] W fun e w' => e = .returned (.bool true) ∧ Drawn0 W w') := ⟨fun W => slots_high.calls (h : Int) true W (by unfold slots_high.f; rw [if_pos (by omega)]; congr 1; exact decide_eq_true (by omega))⟩
  have HM : Aside0 (∀ W, Below w.heap.size w W → Calls Tryz.prog 15 #[.slice Aw was.length cw, .int .i64 (h : Int)] W fun e w' => e = .returned (.bool true) ∧ Below W.heap.size W w') := ⟨fun W hb => slots_May.calls Aw cw was (h : Int) true W (GTab.below hGT hb) (Kd.C_below hw hb) hcw hmay⟩
  have HR : Aside0 (∀ W, Below w.heap.size w W → Calls Tryz.prog 26 #[.slice Ar rows.length cr] W fun e w' => e = .returned (.bool true) ∧ Below W.heap.size W w') := ⟨fun W hb => hrow ▸ rowed_calls Ar cr rows W (GTab.below hGT hb) (Kd.C_below hr hb) (by omega) hrs⟩
  have HW := Aside0.mk hw
  have HRC := Aside0.mk hr
  have c64 : decide ((64 : Int) < (seed.size : Int)) = false := decide_eq_false (by omega)
  have c64' : ¬ ((64 : Int) < (seed.size : Int)) := by omega
  have hp := Nat.two_pow_pos h
  have hp10 : 2 ^ h ≤ 1024 := by
    have := Nat.pow_le_pow_right (n := 2) (by decide) hh
    omega
  have hsh0 : (0 : Int) ≤ (h : Int) := by omega
  have hwrap : IntKind.i64.wrap ((2 : Int) ^ h) = ((2 ^ h : Nat) : Int) := by
    have e : ((2 : Int) ^ h) = ((2 ^ h : Nat) : Int) := by push_cast; rfl
    rw [e, IntWalk.i64_in _ (by omega)]
  have e2h : ((2 : Int) ^ h) = ((2 ^ h : Nat) : Int) := by push_cast; rfl
  have cm : decide ((2 : Int) ^ h < (rows.length : Int)) = false := by rw [e2h]; exact decide_eq_false (by omega)
  have cm' : ¬ ((2 : Int) ^ h < (rows.length : Int)) := by rw [e2h]; omega
  clear e2h
  clear hw hr hGT hrow hmay
  refine Sh.calls_marks Tryz.func10 rfl ?_
  simp only [Tryz.ntmps10, List.size_toArray, List.length_cons, List.length_nil, Nat.reduceAdd, Nat.reduceSub, Array.replicate_succ, Array.replicate_zero, List.push_toArray, List.append_toArray, List.nil_append, List.cons_append]
  go_wp2_with fail
  refine (HH.out _).mono ?_
  rintro e w1 ⟨rfl, ⟨n1, rfl⟩⟩
  have HE0 : Aside0 ((((w.alloc (.cells #[.string seed] 9)).alloc (.cells #[.int .i64 (h : Int)] 3)).drewN n1).heap[w.heap.size]? = some (.cells #[.string seed] 9 (0, 0))) := ⟨(Below.heap_alloc _ _ _ (by simp)).trans (blk_new w _)⟩
  have hE1 := heap_alloc_new (w.alloc (.cells #[.string seed] 9)) (.cells #[.int .i64 (h : Int)] 3)
  rw [World.size_alloc] at hE1
  have HE1 : Aside0 ((((w.alloc (.cells #[.string seed] 9)).alloc (.cells #[.int .i64 (h : Int)] 3)).drewN n1).heap[w.heap.size + 1]? = some (.cells #[.int .i64 (h : Int)] 3 (0, 0))) := ⟨hE1⟩
  have HB1 : Aside0 (Below w.heap.size w (((w.alloc (.cells #[.string seed] 9)).alloc (.cells #[.int .i64 (h : Int)] 3)).drewN n1)) := ⟨pw_below_drewN (((Below.refl _ _).alloc (Nat.le_refl _) _).alloc (by simp) _) n1⟩
  generalize ((w.alloc (.cells #[.string seed] 9)).alloc (.cells #[.int .i64 (h : Int)] 3)).drewN n1 = w1 at HE0 HE1 HB1 ⊢
  have e0 : w1.cell? ⟨w.heap.size, 0, none⟩ = some (.string seed) := blk_cell HE0.out 0
  have e1 : w1.cell? ⟨w.heap.size + 1, 0, none⟩ = some (.int .i64 (h : Int)) := blk_cell HE1.out 0
  clear hE1
  go_wp2_with fail
  refine (HM.out _ HB1.out).mono ?_
  rintro e w2 ⟨rfl, hb2⟩
  have HE0' := Aside0.mk (blk_below HE0.out hb2)
  have HE1' := Aside0.mk (blk_below HE1.out hb2)
  have HB2 : Aside0 (Below w.heap.size w w2) := ⟨HB1.out.trans (hb2.mono HB1.out.size)⟩
  clear e0 e1 hb2 HE0 HE1 HB1
  go_wp2_with fail
  refine (HR.out _ HB2.out).mono ?_
  rintro e w3 ⟨rfl, hb3⟩
  have HE0 := Aside0.mk (blk_below HE0'.out hb3)
  have HE1 := Aside0.mk (blk_below HE1'.out hb3)
  have HB3 : Aside0 (Below w.heap.size w w3) := ⟨HB2.out.trans (hb3.mono HB2.out.size)⟩
  clear hb3 HE0' HE1' HB2 HH HM HR
  have e1 : w3.cell? ⟨w.heap.size + 1, 0, none⟩ = some (.int .i64 (h : Int)) := blk_cell HE1.out 0
  go_wp2_with fail
  have HE0a : Aside0 ((w3.alloc (.cells #[.slice none 0 0] 22)).heap[w.heap.size]? = some (.cells #[.string seed] 9 (0, 0))) := ⟨(Below.heap_alloc _ _ _ (blk_lt HE0.out)).trans HE0.out⟩
  have HE1a : Aside0 ((w3.alloc (.cells #[.slice none 0 0] 22)).heap[w.heap.size + 1]? = some (.cells #[.int .i64 (h : Int)] 3 (0, 0))) := ⟨(Below.heap_alloc _ _ _ (blk_lt HE1.out)).trans HE1.out⟩
  have HOa : Aside0 ((w3.alloc (.cells #[.slice none 0 0] 22)).heap[w3.heap.size]? = some (.cells #[.slice none 0 0] 22 (0, 0))) := ⟨heap_alloc_new w3 _⟩
  have HRa : Aside0 (Kd.R k41 41 (w3.alloc (.cells #[.slice none 0 0] 22)) w3.heap.size (fun k => k ≠ w3.heap.size) (.slice none 0 0) (stayL was (rows.take 0))) := ⟨Kd.R_nil k41 41 _ _ _⟩
  have HBa : Aside0 (Below w3.heap.size w3 (w3.alloc (.cells #[.slice none 0 0] 22))) := ⟨(Below.refl _ _).alloc (Nat.le_refl _) _⟩
  have hE : w.heap.size + 1 < w3.heap.size := blk_lt HE1.out
  have HEL := Aside0.mk hE
  clear HE0 HE1 e1 hE
  have hinfo : (Tryz.prog.info? 41).map (fun i => (i.zero, i.size, i.bytes)) = some (some (.agg #[.string ⟨#[]⟩, .int .u64 0, .int .u64 0, .string ⟨#[]⟩, .int .u64 0]), 5, 56) := by kernel_rfl
  have HI := Aside0.mk hinfo
  clear hinfo
  go_loopw [45] (fun v45 wr => ∃ (i : Nat) (ov : Value), v45 = .int .i64 (i : Int) ∧ i ≤ rows.length ∧ Aside0 (wr.heap[w.heap.size]? = some (.cells #[.string seed] 9 (0, 0))) ∧ Aside0 (wr.heap[w.heap.size + 1]? = some (.cells #[.int .i64 (h : Int)] 3 (0, 0))) ∧ Aside0 (wr.heap[w3.heap.size]? = some (.cells #[ov] 22 (0, 0))) ∧ Aside0 (Kd.R k41 41 wr w3.heap.size (fun k => k ≠ w3.heap.size) ov (stayL was (rows.take i))) ∧ Aside0 (Below w3.heap.size w3 wr)) (fun v45 _ => rows.length - (intOf v45).toNat)
  case atStart => exact ⟨0, _, rfl, by omega, HE0a, HE1a, HOa, HRa, HBa⟩
  case round =>
    obtain ⟨i, ov, rfl, hi, HE0, HE1, HO, HRo, HB⟩ := hrel
    clear HE0a HE1a HOa HRa HBa
    obtain ⟨A1, c1, rfl⟩ := Kd.R_slice HRo.out
    by_cases hlt : i < rows.length
    · have c0 : decide ((i : Int) < (rows.length : Int)) = true := decide_eq_true (by omega)
      have hlt2 : (i : Int) < (rows.length : Int) := by omega
      have HBw : Aside0 (Below w.heap.size w wr) := ⟨HB3.out.trans (HB.out.mono HB3.out.size)⟩
      obtain ⟨ad, hA, y0, y1, y2⟩ := at_T45 (Kd.C_below HRC.out HBw.out) (i : Int) (by omega) hlt2
      subst hA
      rw [Int.toNat_natCast] at y0 y1 y2
      have hmem : rd_T45 rows (i : Int) = rows[i] := by simp [rd_T45, hlt]
      have hsn := stayL_snoc was rows i hlt
      have hlen := stayL_len was (rows.take i)
      rw [List.length_take] at hlen
      rw [hmem] at y0 y1 y2
      generalize rows[i] = x at y0 y1 y2 hsn
      have hf : slots_Find.f was x.f0 = some (foundT (was.find? (isId x.f0))) := by unfold slots_Find.f; rw [if_pos hwl]
      have hG : w3.heap.size < wr.heap.size := blk_lt HO.out
      have HGt := Aside0.mk hG
      have z5 : (wr.alloc (.cells #[.string x.f0, .int .u64 x.f1.f0, .int .u64 x.f1.f1] 45)).heap[wr.heap.size]? = some (.cells #[.string x.f0, .int .u64 x.f1.f0, .int .u64 x.f1.f1] 45 (0, 0)) := heap_alloc_new wr _
      have z50 : (wr.alloc (.cells #[.string x.f0, .int .u64 x.f1.f0, .int .u64 x.f1.f1] 45)).cell? ⟨wr.heap.size, 0, none⟩ = some (.string x.f0) := blk_cell z5 0
      have Z5 := Aside0.mk z5
      have HBa : Aside0 (Below wr.heap.size wr (wr.alloc (.cells #[.string x.f0, .int .u64 x.f1.f0, .int .u64 x.f1.f1] 45))) := ⟨(Below.refl _ _).alloc (Nat.le_refl _) _⟩
      clear hmem z5 hG
      have HFc : Aside0 (∀ r1 r2 r3 r4 r5 r6, slots_Find.f was x.f0 = some (r1, r2, r3, r4, r5, r6) → Calls Tryz.prog 16 #[.slice Aw was.length cw, .string x.f0] (wr.alloc (.cells #[.string x.f0, .int .u64 x.f1.f0, .int .u64 x.f1.f1] 45)) fun e w' => e = .returned (.tuple #[.agg #[.string r1, .int .u64 r2, .int .u64 r3, .string r4, .int .u64 r5], .bool r6]) ∧ Below (wr.alloc (.cells #[.string x.f0, .int .u64 x.f1.f0, .int .u64 x.f1.f1] 45)).heap.size (wr.alloc (.cells #[.string x.f0, .int .u64 x.f1.f0, .int .u64 x.f1.f1] 45)) w') := ⟨fun r1 r2 r3 r4 r5 r6 hf => slots_Find.calls Aw cw was x.f0 r1 r2 r3 r4 r5 r6 (wr.alloc (.cells #[.string x.f0, .int .u64 x.f1.f0, .int .u64 x.f1.f1] 45)) (Kd.C_below HW.out (HBw.out.trans (HBa.out.mono HBw.out.size))) hcw hf⟩
      cases hfd : was.find? (isId x.f0) with
      | none =>
        rw [hfd] at hf hsn
        simp only [List.append_nil] at hsn
        have HF := Aside0.mk (HFc.out _ _ _ _ _ _ hf)
        have HSN := Aside0.mk hsn
        clear hf hsn hfd HFc
        go_wp2_with fail
        refine HF.out.mono ?_
        rintro e w5 ⟨rfl, hb5⟩
        have hbw : Below wr.heap.size wr w5 := HBa.out.trans (hb5.mono HBa.out.size)
        have HBW := Aside0.mk hbw
        clear hb5 hbw HF z50 y0 y1 y2
        go_wp2_with fail
        have HBZ : Below wr.heap.size wr (w5.alloc (.cells #[.string ⟨#[]⟩, .int .u64 0, .int .u64 0, .string ⟨#[]⟩, .int .u64 0] 41)) := HBW.out.alloc HBW.out.size _
        exact ⟨⟨i + 1, _, by go_num, by omega, ⟨blk_below HE0.out HBZ⟩, ⟨blk_below HE1.out HBZ⟩, ⟨blk_below HO.out HBZ⟩, ⟨by rw [HSN.out]; exact Kd.R_below HRo.out HBZ⟩, ⟨HB.out.trans (HBZ.mono (by have := HGt.out; omega))⟩⟩, by simp [intOf]; omega⟩
      | some a =>
        rw [hfd] at hf hsn
        simp only at hsn
        have HF := Aside0.mk (HFc.out _ _ _ _ _ _ hf)
        have HSN := Aside0.mk hsn
        clear hf hsn hfd HFc
        go_wp2_with fail
        refine HF.out.mono ?_
        rintro e w5 ⟨rfl, hb5⟩
        have HBW : Aside0 (Below wr.heap.size wr w5) := ⟨HBa.out.trans (hb5.mono HBa.out.size)⟩
        have hz : (w5.alloc (.cells #[.string a.f0, .int .u64 a.f1.f0, .int .u64 a.f1.f1, .string a.f2, .int .u64 a.f3] 41)).heap[wr.heap.size]? = some (.cells #[.string x.f0, .int .u64 x.f1.f0, .int .u64 x.f1.f1] 45 (0, 0)) := (Below.heap_alloc _ _ _ (by have := hb5.size; simp at this; omega)).trans (blk_below Z5.out hb5)
        have q1 : (w5.alloc (.cells #[.string a.f0, .int .u64 a.f1.f0, .int .u64 a.f1.f1, .string a.f2, .int .u64 a.f3] 41)).cell? ⟨wr.heap.size, 1, none⟩ = some (.int .u64 x.f1.f0) := blk_cell hz 1
        have q2 : (w5.alloc (.cells #[.string a.f0, .int .u64 a.f1.f0, .int .u64 a.f1.f1, .string a.f2, .int .u64 a.f3] 41)).cell? ⟨wr.heap.size, 2, none⟩ = some (.int .u64 x.f1.f1) := blk_cell hz 2
        have HBN : Aside0 (Below wr.heap.size wr (w5.alloc (.cells #[.string a.f0, .int .u64 x.f1.f0, .int .u64 x.f1.f1, .string a.f2, .int .u64 a.f3] 41))) := ⟨HBW.out.alloc HBW.out.size _⟩
        have q3 : (w5.alloc (.cells #[.string a.f0, .int .u64 x.f1.f0, .int .u64 x.f1.f1, .string a.f2, .int .u64 a.f3] 41)).cell? ⟨w3.heap.size, 0, none⟩ = some (.slice A1 (stayL was (rows.take i)).length c1) := blk_cell (blk_below HO.out HBN.out) 0
        have HON : Aside0 ((w5.alloc (.cells #[.string a.f0, .int .u64 x.f1.f0, .int .u64 x.f1.f1, .string a.f2, .int .u64 a.f3] 41)).heap[w3.heap.size]? = some (.cells #[.slice A1 (stayL was (rows.take i)).length c1] 22 (0, 0))) := ⟨blk_below HO.out HBN.out⟩
        have HRN : Aside0 (Kd.R k41 41 (w5.alloc (.cells #[.string a.f0, .int .u64 x.f1.f0, .int .u64 x.f1.f1, .string a.f2, .int .u64 a.f3] 41)) w3.heap.size (fun k => k ≠ w3.heap.size) (.slice A1 (stayL was (rows.take i)).length c1) (stayL was (rows.take i))) := ⟨Kd.R_below HRo.out HBN.out⟩
        have HBN3 : Aside0 (Below w3.heap.size w3 (w5.alloc (.cells #[.string a.f0, .int .u64 x.f1.f0, .int .u64 x.f1.f1, .string a.f2, .int .u64 a.f3] 41))) := ⟨HB.out.trans (HBN.out.mono (by have := HGt.out; omega))⟩
        have HSZ : Aside0 (w3.heap.size < (w5.alloc (.cells #[.string a.f0, .int .u64 x.f1.f0, .int .u64 x.f1.f1, .string a.f2, .int .u64 a.f3] 41)).heap.size) := ⟨blk_lt HON.out⟩
        have HL : Aside0 (((stayL was (rows.take i)).length + 1) * 56 ≤ 140737488355328) := ⟨by omega⟩
        clear hb5 hz HF z50 y0 y1 y2
        go_wp2_with (at_builtin; refine Kd.R_append k41 (w0 := w3) w3.heap.size rfl (.tmp 60) (.tmp 62) 22 41 _ 56 rfl Tryz.underlying22 HI.out rfl (by show 0 < 5; decide) (by decide) (.slice A1 (stayL was (rows.take i)).length c1) (stayL was (rows.take i)) (⟨a.f0, x.f1, a.f2, a.f3⟩ : S41) [.string a.f0, .int .u64 x.f1.f0, .int .u64 x.f1.f1, .string a.f2, .int .u64 a.f3] (fun k => k ≠ w3.heap.size) (fun _ => False) rfl (by rw [World.size_alloc]; rfl) (k41_mkM _ _ _ (⟨a.f0, x.f1, a.f2, a.f3⟩ : S41)) (fun _ hk => hk.elim) (fun k hk => by have := HSZ.out; omega) HRN.out HBN3.out (by have := HSZ.out; omega) HL.out ?_; intro v1 w6 ho hb hg hat; obtain ⟨A2, c2, rfl⟩ := Kd.R_slice ho; have HO6 : Aside0 (w6.heap[w3.heap.size]? = some (.cells #[.slice A1 (stayL was (rows.take i)).length c1] 22 (0, 0))) := ⟨(hg.block _ HSZ.out (fun e => (HRN.out.1 _ e.symm) rfl)).trans HON.out⟩; have q6 : w6.cell? ⟨w3.heap.size, 0, none⟩ = some (.slice A1 (stayL was (rows.take i)).length c1) := blk_cell HO6.out 0; have f6 : w6.frozen? ⟨w3.heap.size, 0, none⟩ = false := blk_frozen HO6.out 0; have HO7 := Aside0.mk ho; have HB7 := Aside0.mk hb; clear ho hb hg hat q3)
        have HE06 : Aside0 (w6.heap[w.heap.size]? = some (.cells #[.string seed] 9 (0, 0))) := ⟨(HB7.out.block _ (by have := HEL.out; omega)).trans ((HB.out.block _ (by have := HEL.out; omega)).symm.trans HE0.out)⟩
        have HE16 : Aside0 (w6.heap[w.heap.size + 1]? = some (.cells #[.int .i64 (h : Int)] 3 (0, 0))) := ⟨(HB7.out.block _ HEL.out).trans ((HB.out.block _ HEL.out).symm.trans HE1.out)⟩
        have HR8 : Aside0 (Kd.R k41 41 (w6.setCell ⟨w3.heap.size, 0, none⟩ (.slice A2 ((stayL was (rows.take i)).length + 1) c2)) w3.heap.size (fun k => k ≠ w3.heap.size) (.slice A2 ((stayL was (rows.take i)).length + 1) c2) (stayL was (rows.take (i + 1)))) := ⟨by
          rw [HSN.out]
          have h7 := HO7.out
          rw [List.length_append, List.length_singleton] at h7
          exact Kd.R_far h7 (fun k hk => hk) _⟩
        exact ⟨⟨i + 1, _, by go_num, by omega, ⟨(heap_setCell_other _ _ _ _ (by show w.heap.size ≠ w3.heap.size; have := HEL.out; omega)).trans HE06.out⟩, ⟨(heap_setCell_other _ _ _ _ (by show w.heap.size + 1 ≠ w3.heap.size; have := HEL.out; omega)).trans HE16.out⟩, ⟨blk_set HO6.out 0 _⟩, HR8, ⟨HB7.out.setCell (Nat.le_refl _) _⟩⟩, by simp [intOf]; omega⟩
    · have c0 : decide ((i : Int) < (rows.length : Int)) = false := decide_eq_false (by omega)
      have hnl : ¬ (i : Int) < (rows.length : Int) := by omega
      rw [List.take_of_length_le (show rows.length ≤ i by omega)] at HRo HO
      have hstl := stayL_len was rows
      have HOF : Aside0 (Calls Tryz.prog 27 #[.slice A1 (stayL was rows).length c1] wr fun e w' => ∃ B, e = .returned (.map (some B)) ∧ wr.heap.size ≤ B ∧ CntMap 37 w' B (stayL was rows).length (cntK keyU (stayL was rows)) ∧ Below wr.heap.size wr w') := ⟨of_calls A1 c1 (stayL was rows) wr (Kd.R_reads' HRo.out).2.2 (by omega) (stayL_wf was rows hww)⟩
      have q0 : wr.cell? ⟨w3.heap.size, 0, none⟩ = some (.slice A1 (stayL was rows).length c1) := blk_cell HO.out 0
      clear hlt hi
      go_wp2_with fail
      refine HOF.out.mono ?_
      rintro e w7 ⟨MB, rfl, hMB, hC7, hb7⟩
      have HC7 := Aside0.mk hC7
      have HB7 := Aside0.mk hb7
      have HMB := Aside0.mk hMB
      clear hC7 hb7 hMB HOF q0
      go_wp2_with fail
      refine (coming_calls Aw was.length cw Ar rows.length cr _).mono ?_
      rintro e w8 ⟨rfl, hw8⟩
      have hG3 : w3.heap.size < wr.heap.size := blk_lt HO.out
      obtain ⟨OB, hOB⟩ : ∃ OB, w3.heap.size = OB := ⟨_, rfl⟩
      obtain ⟨TB, hTB⟩ : ∃ TB, w7.heap.size = TB := ⟨_, rfl⟩
      obtain ⟨E, hEE⟩ : ∃ E, w.heap.size = E := ⟨_, rfl⟩
      have hs7 : (w7.alloc (.cells #[.map (some MB)] 62)).heap.size = TB + 1 := by rw [World.size_alloc, hTB]
      have hb8 : Below w7.heap.size w7 w8 := by rw [hw8]; exact (((Below.refl _ _).alloc (Nat.le_refl _) _).alloc (by simp) _).alloc (by simp; omega) _
      have hbr : Below wr.heap.size wr w8 := HB7.out.trans (hb8.mono HB7.out.size)
      have hB8 : Below w.heap.size w w8 := HB3.out.trans ((HB.out.mono HB3.out.size).trans (hbr.mono (by have := HB3.out.size; omega)))
      have hsz8 : w8.heap.size = TB + 3 := by rw [hw8]; simp [hTB]
      have hMT : MB < TB := by have := HC7.out.lt; omega
      have hT8 : w8.heap[TB]? = some (.cells #[.map (some MB)] 62 (0, 0)) := by
        rw [hw8, ← hTB]
        exact (Below.heap_alloc _ _ _ (by simp; omega)).trans ((Below.heap_alloc _ _ _ (by simp)).trans (heap_alloc_new w7 _))
      have hW8 : w8.heap[TB + 1]? = some (.cells #[.slice Aw was.length cw] 22 (0, 0)) := by
        rw [hw8, ← hs7]
        exact (Below.heap_alloc _ _ _ (by simp)).trans (heap_alloc_new _ _)
      have hR8 : w8.heap[TB + 2]? = some (.cells #[.slice Ar rows.length cr] 23 (0, 0)) := by
        have := heap_alloc_new ((w7.alloc (.cells #[.map (some MB)] 62)).alloc (.cells #[.slice Aw was.length cw] 22)) (.cells #[.slice Ar rows.length cr] 23)
        rw [World.size_alloc, hs7] at this
        rw [hw8]; exact this
      have hO8 := blk_below HO.out hbr
      have hE08 := blk_below HE0.out hbr
      have hE18 := blk_below HE1.out hbr
      have hRo8 := Kd.R_below HRo.out hbr
      have hC8 := HC7.out.below hb8
      have hMB := HMB.out
      rw [hs7]
      rw [hOB] at hO8 hRo8 hG3
      rw [hEE] at hE08 hE18
      have HEL2 : E + 1 < OB := by have := HEL.out; omega
      have HOWN : Aside0 ((∀ k, (Value.slice A1 (stayL was rows).length c1).ownBlock = some k → k ≠ OB) ∧ ∀ k, (Value.slice A1 (stayL was rows).length c1).ownBlock = some k → k < wr.heap.size) := ⟨fun k hk => hOB ▸ HRo.out.1 k hk, fun k hk => Kd.R_lt HRo.out k hk⟩
      clear hw8 HE0 HE1 HO HRo HB HC7 HB7 HMB
      let I : List S45 → (Nat → Prop) → World → Prop := fun q Pv V => ∃ (A : Option Addr) (c : Nat), V.heap[E]? = some (.cells #[.string seed] 9 (0, 0)) ∧ V.heap[E + 1]? = some (.cells #[.int .i64 (h : Int)] 3 (0, 0)) ∧ V.heap[OB]? = some (.cells #[.slice A (placeL seed h was rows q).length c] 22 (0, 0)) ∧ Kd.R k41 41 V OB (fun k => some k = (Value.slice A (placeL seed h was rows q).length c).ownBlock) (.slice A (placeL seed h was rows q).length c) (placeL seed h was rows q) ∧ (∀ k, some k = (Value.slice A (placeL seed h was rows q).length c).ownBlock → k ≠ OB ∧ k ≠ TB ∧ k ≠ MB) ∧ V.heap[TB]? = some (.cells #[.map (some MB)] 62 (0, 0)) ∧ CntMap 37 V MB (placeL seed h was rows q).length (cntK keyU (placeL seed h was rows q)) ∧ Below E w V ∧ (∀ k, Pv k → TB < k ∧ k < V.heap.size ∧ some k ≠ (Value.slice A (placeL seed h was rows q).length c).ownBlock) ∧ TB + 2 < V.heap.size
      have hOT : OB < TB := by omega
      have hOM : OB < MB := by omega
      have aI : AbidesI I := fun q Pv Pv' V V' hI0 i => by
        obtain ⟨A, c, i0, i1, i2, i3, i4, i5, i6, i7, i8, i9⟩ := hI0
        have hsz := i.size
        refine ⟨A, c, (i.block E (by omega) (fun hp => by have := (i8 _ hp).1; omega)).trans i0, (i.block (E + 1) (by omega) (fun hp => by have := (i8 _ hp).1; omega)).trans i1, (i.block OB (by omega) (fun hp => by have := (i8 _ hp).1; omega)).trans i2, Kd.R_step i3 (fun k hk hlt => i.block k hlt (fun hp => (i8 k hp).2.2 hk)), i4, (i.block TB (by omega) (fun hp => by have := (i8 _ hp).1; omega)).trans i5, i6.kept (i.block MB i6.lt (fun hp => by have := (i8 _ hp).1; omega)), ⟨i.os.trans i7.os, i.tape.trans i7.tape, i.output.trans i7.output, by have := i7.size; omega, fun k hk => (i.block k (by omega) (fun hp => by have := (i8 _ hp).1; omega)).trans (i7.block k hk)⟩, fun k hk => (i.own k hk).elim (fun hp => ⟨(i8 k hp).1, by have := (i8 k hp).2.1; omega, (i8 k hp).2.2⟩) (fun e => ⟨by omega, by omega, fun e2 => by have := Kd.R_lt i3 k e2.symm; omega⟩), by omega⟩
      go_wp2_with fail
      refine wpIn_wide.1 (range (n := 0) (gf := 53) (lb := #[.pointer (some ⟨TB + 2, 0, none⟩), .pointer (some ⟨TB + 1, 0, none⟩)]) ?hg (enters_of Tryz.func53 (by kernel_rfl) rfl) (encs := encY) (fun _ => rfl) (n0 := E) (by omega) (xs := comingL was (insSort rowKey rows)) (fun k => k = TB + 1) (fun _ h => by omega) I (fun _ _ _ _ => False) aI (fun _ _ _ _ _ _ h _ => h) ?h0 ?hseq ?hround ?hdone ?hstop)
      case hg => simp [Act.eval]
      case h0 =>
        have hp0 : placeL seed h was rows [] = stayL was rows := rfl
        have hown : ∀ k, some k = (Value.slice A1 (stayL was rows).length c1).ownBlock → k ≠ OB ∧ k < wr.heap.size := fun k hk => ⟨HOWN.out.1 k hk.symm, HOWN.out.2 k hk.symm⟩
        refine ⟨A1, c1, hE08, hE18, hO8, kd_tight rfl hRo8, fun k hk => ⟨(hown k hk).1, by have := (hown k hk).2; omega, by have := (hown k hk).2; omega⟩, hT8, hC8, hEE ▸ hB8, fun k hk => ⟨by omega, by omega, fun e => by have := (hown k e).2; omega⟩, by omega⟩
      case hstop => intro D c q Pv V _ _ _ h; exact h.elim
      case hseq =>
        intro m l J Jx V aJ aJx hY hJ hb hsz2
        have hb0 : Below E w V := hEE ▸ hB8.trans (hb.mono hB8.size)
        exact coming1_calls was rows hr20s hwl Aw cw Ar cr hcw l E m J Jx aJ hY _ V (TB + 2) (TB + 1) hJ (by omega) rfl (Kd.C_below HRC.out (hEE ▸ hb0)) (fun W' hbW => Kd.C_below HW.out (hEE ▸ hb0.trans hbW)) ((hb.block _ (by omega)).trans hR8) ((hb.block _ (by omega)).trans hW8)
      case hdone =>
        intro D Pv V hD hPD hI hb hd
        obtain ⟨A, c, i0, i1, i2, i3, i4, i5, i6, i7, i8, i9⟩ := hI
        have hlenP : (placeL seed h was rows (comingL was (insSort rowKey rows))).length ≤ 100000 := by
          have h1 := placeL_len seed h was rows (comingL was (insSort rowKey rows))
          have h2 := comingL_len was (insSort rowKey rows)
          have h3 := (insSort_sorts rowKey rows).1
          omega
        have HS := Aside0.mk (accSort_calls A c _ OB _ V i3 hlenP)
        obtain ⟨L, hL⟩ : ∃ L, placeL seed h was rows (comingL was (insSort rowKey rows)) = L := ⟨_, rfl⟩
        rw [hL] at i2 i3 i4 i8 HS
        have q0 : V.cell? ⟨OB, 0, none⟩ = some (.slice A L.length c) := blk_cell i2 0
        have hown : ∀ k, (Value.slice A L.length c).ownBlock = some k → OB ≤ k := Kd.R_base i3
        have HD : Aside0 (V.heap[D]? = some (.deferred (some [])) ∧ some D ≠ (Value.slice A L.length c).ownBlock) := ⟨hd, (i8 D hPD).2.2⟩
        have HO2 : Aside0 (V.heap[OB]? = some (.cells #[.slice A L.length c] 22 (0, 0)) ∧ some OB ≠ (Value.slice A L.length c).ownBlock) := ⟨i2, fun e => (i4 OB e).1 rfl⟩
        have HOWN2 := Aside0.mk hown
        have HB9 := Aside0.mk i7
        have HSZ9 := Aside0.mk i9
        clear i0 i1 i2 i3 i4 i5 i6 i8 hown hd
        go_wp2_with fail
        refine HS.out.mono ?_
        rintro e w9 ⟨rfl, hC9, hB9, hK9⟩
        have q9 : w9.cell? ⟨OB, 0, none⟩ = some (.slice A L.length c) := blk_cell ((hK9 OB (blk_lt HO2.out.1) HO2.out.2).trans HO2.out.1) 0
        have hd9 : w9.heap[D]? = some (.deferred (some [])) := (hK9 D (Array.getElem?_eq_some_iff.1 HD.out.1).1 HD.out.2).trans HD.out.1
        have HB10 : Aside0 (Below E w w9) := ⟨HB9.out.trans (hB9 E (by have := HSZ9.out; omega) (fun k hk => by have := HOWN2.out k hk; omega))⟩
        have HC10 := Aside0.mk hC9
        clear hC9 hB9 hK9
        go_wp2_with fail
        refine ⟨by simp, .inl ⟨_, _, rfl, run_takeDeferred hd9, ?_⟩⟩
        refine ⟨_, results_tmp2 rfl _ _ _, ?_⟩
        rw [hL]
        rw [hEE]
        refine ⟨_, rfl, Kd.R_mono (Kd.R_lower (Kd.R_step HC10.out (fun k hk hlt => World.putObj_heap_other (fun e2 => HD.out.2 (by first | (rw [← e2]; exact hk) | (rw [e2]; exact hk))))) (by omega)) (fun _ _ => trivial), ?_⟩
        exact HB10.out.trans (putObj_below' (by have := HSZ9.out; omega))
      case hround =>
        intro l D m q x Pv V hpx hI hl hD hll hDD hloop
        rw [show encY x = #[.agg #[.string x.f0, .int .u64 x.f1.f0, .int .u64 x.f1.f1]] from rfl, zip1]
        dsimp only
        have hlt : l < V.heap.size := by obtain ⟨r, hr'⟩ := hloop; exact (Array.getElem?_eq_some_iff.1 hr').1
        have hxm : x ∈ rows := (insSort_sorts rowKey rows).2.1.mem_iff.1 (List.mem_filter.1 (show x ∈ comingL was (insSort rowKey rows) from hpx.subset (by simp))).1
        have hxs : x.f0.size ≤ 1000 := hrs x hxm
        have hql : (placeL seed h was rows q).length ≤ 1000 := by
          have h1 := placeL_len seed h was rows q
          have h2 := comingL_len was (insSort rowKey rows)
          have h3 := (insSort_sorts rowKey rows).1
          have h4 : (q ++ [x]).length ≤ (comingL was (insSort rowKey rows)).length := hpx.length_le
          rw [List.length_append, List.length_singleton] at h4
          omega
        have hsn := placeL_snoc seed h was rows q x
        obtain ⟨i00, hVs⟩ : ∃ n, n = V.heap.size := ⟨_, rfl⟩
        have hEV : E ≤ V.heap.size ∧ TB + 2 < V.heap.size := by obtain ⟨_, _, _, _, _, _, _, _, _, _, _, i9⟩ := hI; omega
        gi_wp2_with (rw [Oper.semAt_eq _ _ _ (fun c h => by cases h)]; go_simp; try go_bits)
        refine ⟨⟨(Below.refl E V).alloc hEV.1 _, fun k _ hk => Below.heap_alloc V _ k hk⟩, fun V2 hi hsame hsz2 hl2 => ?_⟩
        have hI2 : I q Pv V2 := aI _ _ _ _ _ hI ((Its.of_below ((Below.refl _ V).alloc (Nat.le_refl _) _)).trans hi)
        obtain ⟨RB, hRB⟩ : ∃ RB, V.heap.size = RB := ⟨_, rfl⟩
        have bx : V2.heap[V.heap.size]? = some (.cells #[.string x.f0, .int .u64 x.f1.f0, .int .u64 x.f1.f1] 45 (0, 0)) := (hsame _ (by omega)).trans (World.alloc_heap_new V _)
        have hRV : V.heap.size < V2.heap.size := by rw [hsz2]; simp
        rw [hRB] at bx hRV
        obtain ⟨A, c, i0, i1, i2, i3, i4, i5, i6, i7, i8, i9⟩ := hI2
        obtain ⟨L, hL⟩ : ∃ L, placeL seed h was rows q = L := ⟨_, rfl⟩
        rw [hL] at hql hsn i2 i3 i4 i6 i8
        rw [hRB]
        have HSN := Aside0.mk hsn
        have HXS := Aside0.mk hxs
        have HQL := Aside0.mk hql
        have HZ2 := Aside0.mk hsz2
        have H0 := Aside0.mk i0
        have H1 := Aside0.mk i1
        have H2 := Aside0.mk i2
        have H3 := Aside0.mk i3
        have H4 := Aside0.mk i4
        have H5 := Aside0.mk i5
        have H6 := Aside0.mk i6
        have H7 := Aside0.mk i7
        have H8 := Aside0.mk i8
        have H9 := Aside0.mk i9
        have HV9 : Aside0 (E + 1 < OB ∧ OB < MB ∧ MB < TB ∧ TB < RB) := ⟨⟨HEL2, hOM, hMT, by omega⟩⟩
        have HX := Aside0.mk bx
        have HT2 : Aside0 (GTab V2) := ⟨GTab.below HG.out (hEE ▸ i7)⟩
        clear hi hsame hI hloop hsn hxs hql hsz2 hVs hEV hxm hpx i0 i1 i2 i3 i4 i5 i6 i7 i8 i9 bx hlt
        gi_wp2_with (rw [Oper.semAt_eq _ _ _ (fun c h => by cases h)]; go_simp; try go_bits)
        have HS : ∀ w', Below V2.heap.size V2 w' → (fun w' : World => w'.heap[TB]? = some (.cells #[.map (some MB)] 62 (0, 0)) ∧ w'.heap[E]? = some (.cells #[.string seed] 9 (0, 0)) ∧ w'.heap[E + 1]? = some (.cells #[.int .i64 (h : Int)] 3 (0, 0)) ∧ w'.heap[RB]? = some (.cells #[.string x.f0, .int .u64 x.f1.f0, .int .u64 x.f1.f1] 45 (0, 0))) w' := fun w' hb => ⟨blk_below H5.out hb, blk_below H0.out hb, blk_below H1.out hb, blk_below HX.out hb⟩
        refine RoundReg.startR (n := 13) (S := fun w' => w'.heap[TB]? = some (.cells #[.map (some MB)] 62 (0, 0)) ∧ w'.heap[E]? = some (.cells #[.string seed] 9 (0, 0)) ∧ w'.heap[E + 1]? = some (.cells #[.int .i64 (h : Int)] 3 (0, 0)) ∧ w'.heap[RB]? = some (.cells #[.string x.f0, .int .u64 x.f1.f0, .int .u64 x.f1.f1] 45 (0, 0))) (ds := []) #[false, false, false, false, false, false, false, false, false, false, false, false, false] (by kernel_rfl) (by kernel_rfl) (fun h => by obtain ⟨_, _, h⟩ := h; exact h) rfl rfl (HS _ (Below.refl _ _).drew) (fun hHeld => ?_)
        have HSd := fun (w' : World) (hb' : Below V2.drew.heap.size V2.drew w') => HS w' ((Below.refl V2.heap.size V2).drew.trans hb')
        have HBd : Aside0 (Below V2.heap.size V2 V2.drew) := ⟨(Below.refl _ _).drew⟩
        generalize V2.drew = wd at hHeld HSd HBd ⊢
        refine take_ (i := 0) (N := (some 72)) (v := ?_) (a' := ?_) #[true, false, false, false, false, false, false, false, false, false, false, false, false] rfl rfl (by kernel_rfl) (fun _ _ _ h => h) (Or.inl ⟨by rfl, ?_⟩) hHeld ?_ ?_
        rotate_left
        · rintro w' ⟨s0, s1, s2, s3⟩
          have c0 : w'.cell? ⟨TB, 0, none⟩ = some (.map (some MB)) := blk_cell s0 0
          have c1 : w'.cell? ⟨E, 0, none⟩ = some (.string seed) := blk_cell s1 0
          have c2 : w'.cell? ⟨E + 1, 0, none⟩ = some (.int .i64 (h : Int)) := blk_cell s2 0
          have c3 : w'.cell? ⟨RB, 0, none⟩ = some (.string x.f0) := blk_cell s3 0
          go_simp
          with_reducible rfl
        rotate_left
        · simp only [Act.put, List.setIfInBounds_toArray, List.set_cons_zero, List.set_cons_succ]
          rfl
        refine take_ (i := 1) (N := (some 73)) (v := ?_) (a' := ?_) #[true, true, false, false, false, false, false, false, false, false, false, false, false] rfl rfl (by kernel_rfl) (fun _ _ _ h => h) (Or.inl ⟨by rfl, ?_⟩) hHeld ?_ ?_
        rotate_left
        · rintro w' ⟨s0, s1, s2, s3⟩
          have c0 : w'.cell? ⟨TB, 0, none⟩ = some (.map (some MB)) := blk_cell s0 0
          have c1 : w'.cell? ⟨E, 0, none⟩ = some (.string seed) := blk_cell s1 0
          have c2 : w'.cell? ⟨E + 1, 0, none⟩ = some (.int .i64 (h : Int)) := blk_cell s2 0
          have c3 : w'.cell? ⟨RB, 0, none⟩ = some (.string x.f0) := blk_cell s3 0
          go_simp
          with_reducible rfl
        rotate_left
        · simp only [Act.put, List.setIfInBounds_toArray, List.set_cons_zero, List.set_cons_succ]
          rfl
        refine take_ (i := 2) (N := (some 74)) (v := ?_) (a' := ?_) #[true, true, true, false, false, false, false, false, false, false, false, false, false] rfl rfl (by kernel_rfl) (fun _ _ _ h => h) (Or.inl ⟨by rfl, ?_⟩) hHeld ?_ ?_
        rotate_left
        · rintro w' ⟨s0, s1, s2, s3⟩
          have c0 : w'.cell? ⟨TB, 0, none⟩ = some (.map (some MB)) := blk_cell s0 0
          have c1 : w'.cell? ⟨E, 0, none⟩ = some (.string seed) := blk_cell s1 0
          have c2 : w'.cell? ⟨E + 1, 0, none⟩ = some (.int .i64 (h : Int)) := blk_cell s2 0
          have c3 : w'.cell? ⟨RB, 0, none⟩ = some (.string x.f0) := blk_cell s3 0
          go_simp
          with_reducible rfl
        rotate_left
        · simp only [Act.put, List.setIfInBounds_toArray, List.set_cons_zero, List.set_cons_succ]
          rfl
        refine pure_ (i := 3) (N := (some 75)) (v := ?_) (a' := ?_) #[true, true, true, true, false, false, false, false, false, false, false, false, false] rfl rfl (by kernel_rfl) (fun _ _ _ h => h) (Or.inl ⟨by rfl, ?_⟩) ?_ ?_
        rotate_left
        · intro w'
          go_simp
          with_reducible rfl
        rotate_left
        · simp only [Act.put, List.setIfInBounds_toArray, List.set_cons_zero, List.set_cons_succ]
          rfl
        refine take_ (i := 4) (N := (some 76)) (v := ?_) (a' := ?_) #[true, true, true, true, true, false, false, false, false, false, false, false, false] rfl rfl (by kernel_rfl) (fun _ _ _ h => h) (Or.inl ⟨by rfl, ?_⟩) hHeld ?_ ?_
        rotate_left
        · rintro w' ⟨s0, s1, s2, s3⟩
          have c0 : w'.cell? ⟨TB, 0, none⟩ = some (.map (some MB)) := blk_cell s0 0
          have c1 : w'.cell? ⟨E, 0, none⟩ = some (.string seed) := blk_cell s1 0
          have c2 : w'.cell? ⟨E + 1, 0, none⟩ = some (.int .i64 (h : Int)) := blk_cell s2 0
          have c3 : w'.cell? ⟨RB, 0, none⟩ = some (.string x.f0) := blk_cell s3 0
          go_simp
          with_reducible rfl
        rotate_left
        · simp only [Act.put, List.setIfInBounds_toArray, List.set_cons_zero, List.set_cons_succ]
          rfl
        refine take_ (i := 5) (N := (some 77)) (v := ?_) (a' := ?_) #[true, true, true, true, true, true, false, false, false, false, false, false, false] rfl rfl (by kernel_rfl) (fun _ _ _ h => h) (Or.inl ⟨by rfl, ?_⟩) hHeld ?_ ?_
        rotate_left
        · rintro w' ⟨s0, s1, s2, s3⟩
          have c0 : w'.cell? ⟨TB, 0, none⟩ = some (.map (some MB)) := blk_cell s0 0
          have c1 : w'.cell? ⟨E, 0, none⟩ = some (.string seed) := blk_cell s1 0
          have c2 : w'.cell? ⟨E + 1, 0, none⟩ = some (.int .i64 (h : Int)) := blk_cell s2 0
          have c3 : w'.cell? ⟨RB, 0, none⟩ = some (.string x.f0) := blk_cell s3 0
          go_simp
          with_reducible rfl
        rotate_left
        · simp only [Act.put, List.setIfInBounds_toArray, List.set_cons_zero, List.set_cons_succ]
          rfl
        refine one_ (i := 6) (N := (some 78)) #[true, true, true, true, true, true, true, false, false, false, false, false, false] rfl rfl (by kernel_rfl) (by decide) (fun K hK => ?_)
        refine goes_ Tryz.func18 (by kernel_rfl) rfl #[.string seed, .string x.f0, .int .i64 (h : Int)] (by rfl) rfl rfl (by (try simp only [List.map_toArray, List.map_cons, List.map_nil]); first | done | rfl) ?_
        refine (Sh.first_slot_calls seed x.f0 h (by omega) wd (GTab.below HT2.out HBd.out).2 (by omega) (by have := HXS.out; omega)).mono ?_
        rintro e w4 ⟨rfl, hb⟩
        refine ⟨_, rfl, ?_⟩
        refine hK.out _ _ (HSd _ hb) (fun hHeld => ?_)
        have HB4 : Aside0 (Below V2.heap.size V2 w4) := ⟨HBd.out.trans (hb.mono HBd.out.size)⟩
        clear hK K hb HSd HBd
        refine norm_ (a' := ?_) ?_ ?_
        rotate_left
        · show Act.put _ (some 78) _ = _
          simp only [Act.put, List.setIfInBounds_toArray, List.set_cons_zero, List.set_cons_succ]
          rfl
        refine one_ (i := 7) (N := (some 79)) #[true, true, true, true, true, true, true, true, false, false, false, false, false] rfl rfl (by kernel_rfl) (by decide) (fun K hK => ?_)
        refine goes_ Tryz.func29 (by kernel_rfl) rfl #[.map (some MB), .int .i64 (h : Int), .int .u64 ((Sh.numOf seed (Sh.one1 5 ++ x.f0) % 2 ^ h : Nat) : Int)] (by rfl) rfl rfl (by (try simp only [List.map_toArray, List.map_cons, List.map_nil]); first | done | rfl) ?_
        refine (free_calls h hh _ (by omega) (by have := Nat.mod_lt (Sh.numOf seed (Sh.one1 5 ++ x.f0)) hp; omega) MB L.length (cntK keyU L) w4 (H6.out.below HB4.out)).mono ?_
        rintro e w5 ⟨rfl, hw5⟩
        subst hw5
        rw [cnt_free]
        have hrg := freeFrom_range (isFree L) ((2 ^ h : Nat) : Int) ((Sh.numOf seed (Sh.one1 5 ++ x.f0) % 2 ^ h : Nat) : Int) (by omega) (2 ^ h) 0
        have hst : placeStep seed h L x = L ++ [⟨x.f0, x.f1, (Sh.macOf seed (Sh.one1 3 ++ x.f0)).extract 0 16, (freeFrom (isFree L) ((2 ^ h : Nat) : Int) ((Sh.numOf seed (Sh.one1 5 ++ x.f0) % 2 ^ h : Nat) : Int) (2 ^ h) 0).1⟩] := rfl
        generalize freeFrom (isFree L) ((2 ^ h : Nat) : Int) ((Sh.numOf seed (Sh.one1 5 ++ x.f0) % 2 ^ h : Nat) : Int) (2 ^ h) 0 = sl at hrg hst ⊢
        obtain ⟨s1, s2⟩ := sl
        dsimp only at hrg hst ⊢
        have HRG := Aside0.mk hrg
        have HST := Aside0.mk hst
        clear hrg hst
        refine ⟨_, rfl, ?_⟩
        refine hK.out _ _ hHeld (fun hHeld => ?_)
        clear hK K
        refine norm_ (a' := ?_) ?_ ?_
        rotate_left
        · show Act.put _ (some 79) _ = _
          simp only [Act.put, List.setIfInBounds_toArray, List.set_cons_zero, List.set_cons_succ]
          rfl
        refine pure_ (i := 8) (N := (some 71)) (v := ?_) (a' := ?_) #[true, true, true, true, true, true, true, true, true, false, false, false, false] rfl rfl (by kernel_rfl) (fun _ _ _ h => h) (Or.inl ⟨by rfl, ?_⟩) ?_ ?_
        rotate_left
        · intro w'
          go_simp
          with_reducible rfl
        rotate_left
        · simp only [Act.put, List.setIfInBounds_toArray, List.set_cons_zero, List.set_cons_succ]
          rfl
        refine pure_ (i := 9) (N := (some 80)) (v := ?_) (a' := ?_) #[true, true, true, true, true, true, true, true, true, true, false, false, false] rfl rfl (by kernel_rfl) (fun _ _ _ h => h) (Or.inl ⟨by rfl, ?_⟩) ?_ ?_
        rotate_left
        · intro w'
          go_simp
          with_reducible rfl
        rotate_left
        · simp only [Act.put, List.setIfInBounds_toArray, List.set_cons_zero, List.set_cons_succ]
          rfl
        refine pure_ (i := 10) (N := (some 81)) (v := ?_) (a' := ?_) #[true, true, true, true, true, true, true, true, true, true, true, false, false] rfl rfl (by kernel_rfl) (fun _ _ _ h => h) (Or.inl ⟨by rfl, ?_⟩) ?_ ?_
        rotate_left
        · intro w'
          go_simp
          with_reducible rfl
        rotate_left
        · simp only [Act.put, List.setIfInBounds_toArray, List.set_cons_zero, List.set_cons_succ]
          rfl
        refine pure_ (i := 11) (N := (some 17)) (v := ?_) (a' := ?_) #[true, true, true, true, true, true, true, true, true, true, true, true, false] rfl rfl (by kernel_rfl) (fun _ _ _ h => h) (Or.inl ⟨by rfl, ?_⟩) ?_ ?_
        rotate_left
        · intro w'
          go_simp
          with_reducible rfl
        rotate_left
        · simp only [Act.put, List.setIfInBounds_toArray, List.set_cons_zero, List.set_cons_succ]
          rfl
        refine pure_ (i := 12) (N := (some 18)) (v := ?_) (a' := ?_) #[true, true, true, true, true, true, true, true, true, true, true, true, true] rfl rfl (by kernel_rfl) (fun _ _ _ h => h) (Or.inl ⟨by rfl, ?_⟩) ?_ ?_
        rotate_left
        · intro w'
          go_simp
          with_reducible rfl
        rotate_left
        · simp only [Act.put, List.setIfInBounds_toArray, List.set_cons_zero, List.set_cons_succ]
          rfl
        refine done_ (by kernel_rfl) ?_
        have hwf : (Lit.int .u64 s1).wf = true := by have := HRG.out; simp [Lit.wf, IntKind.min, IntKind.max, IntKind.signed, IntKind.bits]; omega
        have hkey : keyOf Tryz.prog 37 (.int .u64 s1) = some (.int .u64 s1) := Maps.keyOf_int_mk Tryz.underlying37 hwf
        have HC4 := H6.out.below HB4.out
        have hcn := (show cntK keyU L (.int .u64 s1) ≤ L.length by obtain ⟨_, _, _, h, _⟩ := HC4; exact h _)
        have hlook := HC4.look lawU Tryz.underlying62 hkey
        obtain ⟨W5, hup, HC5, hg5⟩ := HC4.step lawU Tryz.underlying62 (by have := HQL.out; omega) hkey (by simp [WideAt.IsKeyLit]) rfl
        rw [show Lit.int .u64 s1 = keyU ⟨x.f0, x.f1, (Sh.macOf seed (Sh.one1 3 ++ x.f0)).extract 0 16, s1⟩ from rfl, cntK_snoc] at HC5
        have hwr : IntKind.i64.wrap ((cntK keyU L (.int .u64 s1) : Int) + 1) = (cntK keyU L (.int .u64 s1) : Int) + 1 := by have := HQL.out; simp [IntKind.wrap, IntKind.bits, IntKind.signed]; omega
        generalize ((cntK keyU L (.int .u64 s1) : Nat) : Int) = cm1 at hlook hup hwr
        have HC6 := Aside0.mk HC5
        have HG5 := Aside0.mk hg5
        have HH4 := Aside0.mk hHeld
        have c0 : w5.cell? ⟨TB, 0, none⟩ = some (.map (some MB)) := blk_cell hHeld.1 0
        clear hwf hkey HC4 hcn HC5 hg5 hHeld
        gi_wp2_with (rw [Oper.semAt_eq _ _ _ (fun c h => by cases h)]; go_simp; try go_bits)
        have hEMB : E + 1 < MB ∧ OB < MB ∧ MB < TB ∧ TB < RB := by have := HV9.out; omega
        have HBE5 : Aside0 (Below OB V2 W5) := ⟨(HB4.out.mono (by have := blk_lt HX.out; omega)).grown HG5.out (by have := HB4.out.size; have := blk_lt HX.out; omega) (fun k hk => by cases hk; omega)⟩
        have HKe5 : Aside0 (∀ k, k < V2.heap.size → k ≠ MB → W5.heap[k]? = V2.heap[k]?) := ⟨fun k hk hne => (HG5.out.block k (by have := HB4.out.size; omega) (fun e => hne (by cases e; rfl))).trans (HB4.out.block k hk)⟩
        have hR2 := blk_lt HX.out
        have HO5 : Aside0 (W5.heap[OB]? = some (.cells #[.slice A L.length c] 22 (0, 0))) := ⟨(HKe5.out OB (by omega) (by omega)).trans H2.out⟩
        have HE5 : Aside0 (W5.heap[E]? = some (.cells #[.string seed] 9 (0, 0))) := ⟨(HKe5.out E (by omega) (by omega)).trans H0.out⟩
        have HX5 : Aside0 (W5.heap[RB]? = some (.cells #[.string x.f0, .int .u64 x.f1.f0, .int .u64 x.f1.f1] 45 (0, 0))) := ⟨(HKe5.out RB (by omega) (by omega)).trans HX.out⟩
        have HR5 : Aside0 (Kd.R k41 41 W5 OB (fun k => some k = (Value.slice A L.length c).ownBlock) (.slice A L.length c) L) := ⟨Kd.R_step H3.out (fun k hk hlt => HKe5.out k hlt (H4.out k hk).2.2)⟩
        have HT5 : Aside0 (∀ W, Below W5.heap.size W5 W → GTab W) := ⟨fun W hb => GTab.below HG.out (by
          rw [hEE]
          exact (H7.out.trans ((HBE5.out.mono (by omega)))).trans (hb.mono (by have := HBE5.out.size; omega)))⟩
        have HS5 : Aside0 (V2.heap.size ≤ W5.heap.size) := ⟨HBE5.out.size⟩
        have HEMB := Aside0.mk hEMB
        have HRV := Aside0.mk hRV
        clear hEMB hR2 hlook hup hwr c0 hRV
        have HS : ∀ w', Below W5.heap.size W5 w' → (fun w' : World => w'.heap[OB]? = some (.cells #[.slice A L.length c] 22 (0, 0)) ∧ w'.heap[E]? = some (.cells #[.string seed] 9 (0, 0)) ∧ w'.heap[RB]? = some (.cells #[.string x.f0, .int .u64 x.f1.f0, .int .u64 x.f1.f1] 45 (0, 0))) w' := fun w' hb => ⟨blk_below HO5.out hb, blk_below HE5.out hb, blk_below HX5.out hb⟩
        refine RoundReg.startR (n := 14) (S := fun w' => w'.heap[OB]? = some (.cells #[.slice A L.length c] 22 (0, 0)) ∧ w'.heap[E]? = some (.cells #[.string seed] 9 (0, 0)) ∧ w'.heap[RB]? = some (.cells #[.string x.f0, .int .u64 x.f1.f0, .int .u64 x.f1.f1] 45 (0, 0))) (ds := [12, 13]) #[false, false, false, false, false, false, false, false, false, false, false, false, false, false] (by kernel_rfl) (by kernel_rfl) (fun h => by obtain ⟨_, _, h⟩ := h; exact h) rfl rfl (HS _ (Below.refl _ _).drew) (fun hHeld => ?_)
        have HSd := fun (w' : World) (hb' : Below W5.drew.heap.size W5.drew w') => HS w' ((Below.refl W5.heap.size W5).drew.trans hb')
        have HBd : Aside0 (Below W5.heap.size W5 W5.drew) := ⟨(Below.refl _ _).drew⟩
        generalize W5.drew = wd at hHeld HSd HBd ⊢
        refine take_ (i := 0) (N := (some 86)) (v := ?_) (a' := ?_) #[true, false, false, false, false, false, false, false, false, false, false, false, false, false] rfl rfl (by kernel_rfl) (fun _ _ _ h => h) (Or.inl ⟨by rfl, ?_⟩) hHeld ?_ ?_
        rotate_left
        · rintro w' ⟨s0, s1, s2⟩
          have c0 : w'.cell? ⟨OB, 0, none⟩ = some (.slice A L.length c) := blk_cell s0 0
          have c1 : w'.cell? ⟨E, 0, none⟩ = some (.string seed) := blk_cell s1 0
          have c3 : w'.cell? ⟨RB, 0, none⟩ = some (.string x.f0) := blk_cell s2 0
          have c4 : w'.cell? ⟨RB, 1, none⟩ = some (.int .u64 x.f1.f0) := blk_cell s2 1
          have c5 : w'.cell? ⟨RB, 2, none⟩ = some (.int .u64 x.f1.f1) := blk_cell s2 2
          go_simp
          with_reducible rfl
        rotate_left
        · simp only [Act.put, List.setIfInBounds_toArray, List.set_cons_zero, List.set_cons_succ]
          rfl
        refine pure_ (i := 1) (N := (some 87)) (v := ?_) (a' := ?_) #[true, true, false, false, false, false, false, false, false, false, false, false, false, false] rfl rfl (by kernel_rfl) (fun _ _ _ h => h) (Or.inl ⟨by rfl, ?_⟩) ?_ ?_
        rotate_left
        · intro w'
          go_simp
          with_reducible rfl
        rotate_left
        · simp only [Act.put, List.setIfInBounds_toArray, List.set_cons_zero, List.set_cons_succ]
          rfl
        refine take_ (i := 2) (N := (some 88)) (v := ?_) (a' := ?_) #[true, true, true, false, false, false, false, false, false, false, false, false, false, false] rfl rfl (by kernel_rfl) (fun _ _ _ h => h) (Or.inl ⟨by rfl, ?_⟩) hHeld ?_ ?_
        rotate_left
        · rintro w' ⟨s0, s1, s2⟩
          have c0 : w'.cell? ⟨OB, 0, none⟩ = some (.slice A L.length c) := blk_cell s0 0
          have c1 : w'.cell? ⟨E, 0, none⟩ = some (.string seed) := blk_cell s1 0
          have c3 : w'.cell? ⟨RB, 0, none⟩ = some (.string x.f0) := blk_cell s2 0
          have c4 : w'.cell? ⟨RB, 1, none⟩ = some (.int .u64 x.f1.f0) := blk_cell s2 1
          have c5 : w'.cell? ⟨RB, 2, none⟩ = some (.int .u64 x.f1.f1) := blk_cell s2 2
          go_simp
          with_reducible rfl
        rotate_left
        · simp only [Act.put, List.setIfInBounds_toArray, List.set_cons_zero, List.set_cons_succ]
          rfl
        refine pure_ (i := 3) (N := (some 89)) (v := ?_) (a' := ?_) #[true, true, true, true, false, false, false, false, false, false, false, false, false, false] rfl rfl (by kernel_rfl) (fun _ _ _ h => h) (Or.inl ⟨by rfl, ?_⟩) ?_ ?_
        rotate_left
        · intro w'
          go_simp
          with_reducible rfl
        rotate_left
        · simp only [Act.put, List.setIfInBounds_toArray, List.set_cons_zero, List.set_cons_succ]
          rfl
        refine take_ (i := 4) (N := (some 90)) (v := ?_) (a' := ?_) #[true, true, true, true, true, false, false, false, false, false, false, false, false, false] rfl rfl (by kernel_rfl) (fun _ _ _ h => h) (Or.inl ⟨by rfl, ?_⟩) hHeld ?_ ?_
        rotate_left
        · rintro w' ⟨s0, s1, s2⟩
          have c0 : w'.cell? ⟨OB, 0, none⟩ = some (.slice A L.length c) := blk_cell s0 0
          have c1 : w'.cell? ⟨E, 0, none⟩ = some (.string seed) := blk_cell s1 0
          have c3 : w'.cell? ⟨RB, 0, none⟩ = some (.string x.f0) := blk_cell s2 0
          have c4 : w'.cell? ⟨RB, 1, none⟩ = some (.int .u64 x.f1.f0) := blk_cell s2 1
          have c5 : w'.cell? ⟨RB, 2, none⟩ = some (.int .u64 x.f1.f1) := blk_cell s2 2
          go_simp
          with_reducible rfl
        rotate_left
        · simp only [Act.put, List.setIfInBounds_toArray, List.set_cons_zero, List.set_cons_succ]
          rfl
        refine take_ (i := 5) (N := (some 91)) (v := ?_) (a' := ?_) #[true, true, true, true, true, true, false, false, false, false, false, false, false, false] rfl rfl (by kernel_rfl) (fun _ _ _ h => h) (Or.inl ⟨by rfl, ?_⟩) hHeld ?_ ?_
        rotate_left
        · rintro w' ⟨s0, s1, s2⟩
          have c0 : w'.cell? ⟨OB, 0, none⟩ = some (.slice A L.length c) := blk_cell s0 0
          have c1 : w'.cell? ⟨E, 0, none⟩ = some (.string seed) := blk_cell s1 0
          have c3 : w'.cell? ⟨RB, 0, none⟩ = some (.string x.f0) := blk_cell s2 0
          have c4 : w'.cell? ⟨RB, 1, none⟩ = some (.int .u64 x.f1.f0) := blk_cell s2 1
          have c5 : w'.cell? ⟨RB, 2, none⟩ = some (.int .u64 x.f1.f1) := blk_cell s2 2
          go_simp
          with_reducible rfl
        rotate_left
        · simp only [Act.put, List.setIfInBounds_toArray, List.set_cons_zero, List.set_cons_succ]
          rfl
        refine pure_ (i := 6) (N := (some 92)) (v := ?_) (a' := ?_) #[true, true, true, true, true, true, true, false, false, false, false, false, false, false] rfl rfl (by kernel_rfl) (fun _ _ _ h => h) (Or.inl ⟨by rfl, ?_⟩) ?_ ?_
        rotate_left
        · intro w'
          go_simp
          with_reducible rfl
        rotate_left
        · simp only [Act.put, List.setIfInBounds_toArray, List.set_cons_zero, List.set_cons_succ]
          rfl
        refine take_ (i := 7) (N := (some 93)) (v := ?_) (a' := ?_) #[true, true, true, true, true, true, true, true, false, false, false, false, false, false] rfl rfl (by kernel_rfl) (fun _ _ _ h => h) (Or.inl ⟨by rfl, ?_⟩) hHeld ?_ ?_
        rotate_left
        · rintro w' ⟨s0, s1, s2⟩
          have c0 : w'.cell? ⟨OB, 0, none⟩ = some (.slice A L.length c) := blk_cell s0 0
          have c1 : w'.cell? ⟨E, 0, none⟩ = some (.string seed) := blk_cell s1 0
          have c3 : w'.cell? ⟨RB, 0, none⟩ = some (.string x.f0) := blk_cell s2 0
          have c4 : w'.cell? ⟨RB, 1, none⟩ = some (.int .u64 x.f1.f0) := blk_cell s2 1
          have c5 : w'.cell? ⟨RB, 2, none⟩ = some (.int .u64 x.f1.f1) := blk_cell s2 2
          go_simp
          with_reducible rfl
        rotate_left
        · simp only [Act.put, List.setIfInBounds_toArray, List.set_cons_zero, List.set_cons_succ]
          rfl
        refine pure_ (i := 9) (N := (some 95)) (v := ?_) (a' := ?_) #[true, true, true, true, true, true, true, true, false, true, false, false, false, false] rfl rfl (by kernel_rfl) (fun _ _ _ h => h) (Or.inl ⟨by rfl, ?_⟩) ?_ ?_
        rotate_left
        · intro w'
          go_simp
          with_reducible rfl
        rotate_left
        · simp only [Act.put, List.setIfInBounds_toArray, List.set_cons_zero, List.set_cons_succ]
          rfl
        refine one_ (i := 8) (N := (some 94)) #[true, true, true, true, true, true, true, true, true, true, false, false, false, false] rfl rfl (by kernel_rfl) (by decide) (fun K hK => ?_)
        refine goes_ Tryz.func17 (by kernel_rfl) rfl #[.string seed, .string x.f0] (by rfl) rfl rfl (by (try simp only [List.map_toArray, List.map_cons, List.map_nil]); first | done | rfl) ?_
        refine (Sh.salt_calls seed x.f0 wd (HT5.out _ HBd.out).2 (by omega) (by have := HXS.out; omega)).mono ?_
        rintro e w6 ⟨rfl, hb⟩
        refine ⟨_, rfl, ?_⟩
        refine hK.out _ _ (HSd _ hb) (fun hHeld => ?_)
        have HB6 : Aside0 (Below W5.heap.size W5 w6) := ⟨HBd.out.trans (hb.mono HBd.out.size)⟩
        clear hK K hb HBd
        refine norm_ (a' := ?_) ?_ ?_
        rotate_left
        · show Act.put _ (some 94) _ = _
          simp only [Act.put, List.setIfInBounds_toArray, List.set_cons_zero, List.set_cons_succ]
          rfl
        refine pure_ (i := 10) (N := (some 96)) (v := ?_) (a' := ?_) #[true, true, true, true, true, true, true, true, true, true, true, false, false, false] rfl rfl (by kernel_rfl) (fun _ _ _ h => h) (Or.inl ⟨by rfl, ?_⟩) ?_ ?_
        rotate_left
        · intro w'
          go_simp
          with_reducible rfl
        rotate_left
        · simp only [Act.put, List.setIfInBounds_toArray, List.set_cons_zero, List.set_cons_succ]
          rfl
        refine one_ (i := 11) (N := (some 97)) #[true, true, true, true, true, true, true, true, true, true, true, true, false, false] rfl rfl (by kernel_rfl) (by decide) (fun K hK => ?_)
        refine value_ (w1 := ?_) (v := ?_) (by rfl) rfl ?_ ?_
        rotate_left 2
        · go_simp
          constructor
          · rfl
          · rfl
        refine hK.out _ _ (HS _ (HB6.out.alloc HB6.out.size _)) (fun hHeld => ?_)
        clear hK K
        refine norm_ (a' := ?_) ?_ ?_
        rotate_left
        · show Act.put _ (some 97) _ = _
          simp only [Act.put, List.setIfInBounds_toArray, List.set_cons_zero, List.set_cons_succ]
          rfl
        refine last_ (i := 12) (N := (some 98)) #[true, true, true, true, true, true, true, true, true, true, true, true, true, false] rfl rfl (by kernel_rfl) (by decide) (fun K hK => ?_)
        refine Kd.R_append_step k41 (w0 := V2) OB (by rfl) (.tmp 86) (.tmp 97) 22 41 (.agg #[.string ⟨#[]⟩, .int .u64 0, .int .u64 0, .string ⟨#[]⟩, .int .u64 0]) 56 rfl Tryz.underlying22 HI.out rfl (by show 0 < 5; decide) (by decide) (.slice A L.length c) L (⟨x.f0, x.f1, (Sh.macOf seed (Sh.one1 3 ++ x.f0)).extract 0 16, s1⟩ : S41) [.string x.f0, .int .u64 x.f1.f0, .int .u64 x.f1.f1, .string ((Sh.macOf seed (Sh.one1 3 ++ x.f0)).extract 0 16), .int .u64 s1] (fun k => some k = (Value.slice A L.length c).ownBlock ∨ w6.heap.size ≤ k) (fun _ => False) rfl (by first | rfl | (simp; rfl)) (k41_mkM _ _ _ (⟨x.f0, x.f1, (Sh.macOf seed (Sh.one1 3 ++ x.f0)).extract 0 16, s1⟩ : S41)) (fun _ hk => hk.elim) (fun k hk => .inr hk) (Kd.R_mono (Kd.R_below HR5.out HB6.out) (fun k hk => .inl hk)) (HBE5.out.trans (HB6.out.mono (by have := HEMB.out; have := HS5.out; have := HRV.out; omega))) (by have := HEMB.out; have := HS5.out; have := HRV.out; have := HB6.out.size; omega) (by have := HQL.out; omega) ?_
        intro v1 w7 ho hb hg hat
        obtain ⟨A1, c1, rfl⟩ := Kd.R_slice ho
        have hLN : (L ++ [(⟨x.f0, x.f1, (Sh.macOf seed (Sh.one1 3 ++ x.f0)).extract 0 16, s1⟩ : S41)]).length = L.length + 1 := by simp
        rw [hLN] at ho hat
        refine hK.out _ _ ?_
        clear hK K
        refine norm_ (a' := ?_) ?_ ?_
        rotate_left
        · show Act.put _ (some 98) _ = _
          simp only [Act.put, List.setIfInBounds_toArray, List.set_cons_zero, List.set_cons_succ]
          rfl
        refine last_ (i := 13) (N := none) #[true, true, true, true, true, true, true, true, true, true, true, true, true, true] rfl rfl (by kernel_rfl) (by decide) (fun K hK => ?_)
        have HO7 : w7.heap[OB]? = some (.cells #[.slice A L.length c] 22 (0, 0)) := (hg.block OB (by have := HEMB.out; have := HS5.out; have := HRV.out; have := HB6.out.size; omega) (fun e => (H4.out OB e).1 rfl)).trans (blk_below HO5.out HB6.out)
        have c9 : w7.cell? ⟨OB, 0, none⟩ = some (.slice A L.length c) := blk_cell HO7 0
        have f9 := blk_frozen HO7 0
        go_simp
        refine hK.out _ _ ?_
        clear hK K
        refine done_ (by kernel_rfl) ?_
        show KeptI E Pv V2 _ ∧ I (q ++ [x]) Pv _
        have hEM := HEMB.out
        have hs5 := HS5.out
        have hrv := HRV.out
        have hs6 := HB6.out.size
        have hown : ∀ k, some k = (Value.slice A1 (L.length + 1) c1).ownBlock → some k = (Value.slice A L.length c).ownBlock ∨ w6.heap.size ≤ k := fun k hk => by
          rcases hat with e | ⟨b, e, hb⟩
          · exact .inl (hk.trans e)
          · exact .inr (by have e3 := hk.trans e; cases e3; exact hb)
        have hbl : ∀ k, k < V2.heap.size → k ≠ MB → k ≠ OB → some k ≠ (Value.slice A L.length c).ownBlock → (w7.setCell ⟨OB, 0, none⟩ (.slice A1 (L.length + 1) c1)).heap[k]? = V2.heap[k]? := fun k hk h1 h2 h3 =>
          (Below.heap_setCell _ _ _ k h2).trans ((hg.block k (by omega) h3).trans ((HB6.out.block k (by omega)).trans (HKe5.out k hk h1)))
        have hnOB : some OB ≠ (Value.slice A1 (L.length + 1) c1).ownBlock := fun e => (hown OB e).elim (fun e2 => (H4.out OB e2).1 rfl) (fun e2 => by omega)
        have hBe : Below E V2 (w7.setCell ⟨OB, 0, none⟩ (.slice A1 (L.length + 1) c1)) := (hb.mono (by omega)).setCell (p := ⟨OB, 0, none⟩) (show E ≤ OB by omega) _
        refine ⟨⟨hBe, fun k hk hlt => hbl k hlt (by have := (H8.out k hk).1; omega) (by have := (H8.out k hk).1; omega) (H8.out k hk).2.2⟩, ?_⟩
        have hPL : placeL seed h was rows (q ++ [x]) = L ++ [(⟨x.f0, x.f1, (Sh.macOf seed (Sh.one1 3 ++ x.f0)).extract 0 16, s1⟩ : S41)] := HSN.out.trans HST.out
        show ∃ (A : Option Addr) (c : Nat), _
        rw [hPL, hLN]
        refine ⟨A1, c1, (hbl E (by omega) (by omega) (by omega) (fun e => by have := Kd.R_base H3.out E e.symm; omega)).trans H0.out, (hbl (E + 1) (by omega) (by omega) (by omega) (fun e => by have := Kd.R_base H3.out (E + 1) e.symm; omega)).trans H1.out, blk_set HO7 0 _, ?_, ?_, (hbl TB (by omega) (by omega) (by omega) (fun e => (H4.out TB e).2.1 rfl)).trans H5.out, ?_, H7.out.trans hBe, ?_, by have := hg.size; have := H9.out; simp; omega⟩
        · exact Kd.R_far (kd_tight rfl ho) (fun k hk e => hnOB (by have e2 : k = OB := e; rw [← e2]; exact hk)) _
        · intro k hk
          rcases hown k hk with e | e
          · exact H4.out k e
          · exact ⟨by omega, by omega, by omega⟩
        · exact HC6.out.kept ((Below.heap_setCell _ _ _ MB (by show MB ≠ OB; omega)).trans ((hg.block MB (by omega) (fun e => (H4.out MB e).2.2 rfl)).trans (HB6.out.block MB HC6.out.lt)))
        · intro k hk
          have h8 := H8.out k hk
          refine ⟨h8.1, by have := hg.size; simp; omega, fun e => (hown k e).elim h8.2.2 (fun e2 => by omega)⟩
end Go.Proofs.YtfijhbfdkcajjaaGreatDoor.Pr
