/- The contract of slots.May (two maps that count), in the print's form; written by mk_may.py. -/
import Derived.Test.YtfijhbfdkcajjaaGreatDoorQk
import Derived.Test.YtfijhbfdkcajjaaGreatDoorFree
import Derived.Test.YtfijhbfdkcajjaaGreatDoorMayId
namespace Go.Proofs.YtfijhbfdkcajjaaGreatDoor.Pr
open Go.RowKit Go.Proofs.YtfijhbfdkcajjaaGreatDoorW.PrintWords Go.Proofs.YtfijhbfdkcajjaaGreatDoorW.PrintLast Go.Proofs.YtfijhbfdkcajjaaGreatDoorW.PrintMore
set_option linter.unusedVariables false
set_option linter.unusedSimpArgs false
def keyS (x : S41) : Lit := .string x.f0.data.toList
def okAt (M : Int) (l : List S41) (i : Nat) : Bool := match l[i]? with
  | none => true
  | some x => mayIdB x.f0 && (!decide (M ≤ x.f3) && (!decide (32 < (x.f2.size : Int)) && (!((l.take i).any fun y => decide (y.f0 = x.f0)) && !((l.take i).any fun y => decide (y.f3 = x.f3)))))
def mayFrom (M : Int) (l : List S41) : Nat → Nat → Bool
  | 0, _ => true
  | d + 1, i => okAt M l i && mayFrom M l d (i + 1)
theorem byteArray_inj {a b : ByteArray} (h : a.data.toList = b.data.toList) : a = b := by
  cases a; cases b; simp at h; rw [h]
open Classical in
theorem cntK_gt {α : Type} (key : α → Lit) (l : List α) (i : Nat) (h : i < l.length) (eqv : α → α → Bool) (hk : ∀ x y, key x = key y ↔ eqv x y = true) : decide (1 < ((cntK key (l.take (i + 1)) (key l[i]) : Nat) : Int)) = (l.take i).any (fun y => eqv y l[i]) := by
  rw [← cntK_step key l i h]
  unfold bump
  rw [if_pos rfl, Bool.eq_iff_iff, decide_eq_true_iff, List.any_eq_true]
  unfold cntK
  constructor
  · intro h1
    have h2 : 0 < List.countP (fun x => decide (key x = key l[i])) (l.take i) := by omega
    obtain ⟨y, hy, e⟩ := List.countP_pos_iff.1 h2
    exact ⟨y, hy, (hk _ _).1 (by simpa using e)⟩
  · rintro ⟨y, hy, e⟩
    have : 0 < List.countP (fun x => decide (key x = key l[i])) (l.take i) := List.countP_pos_iff.2 ⟨y, hy, by simpa using (hk _ _).2 e⟩
    omega
theorem keyS_eq (x y : S41) : keyS x = keyS y ↔ decide (x.f0 = y.f0) = true := by
  unfold keyS
  rw [decide_eq_true_iff]
  constructor
  · intro h; injection h with h; exact byteArray_inj h
  · intro h; rw [h]
theorem keyU_eq (x y : S41) : keyU x = keyU y ↔ decide (x.f3 = y.f3) = true := by
  unfold keyU
  rw [decide_eq_true_iff]
  constructor
  · intro h; injection h with _ h
  · intro h; rw [h]
def slots_May.f (l0 : List S41) (a1 : Int) : Option Bool :=
  if l0.length ≤ 100000 ∧ (∀ x, x ∈ l0 → x.f0.size ≤ 1000) ∧ (∀ x, x ∈ l0 → (Lit.int .u64 x.f3).wf = true) then some (decide (0 ≤ a1 ∧ a1 ≤ 10) && mayFrom ((2 ^ a1.toNat : Nat) : Int) l0 l0.length 0) else none
def slots_May.T9 : Bool × List (List Nat × List Nat) := (true, [([], []), ([0], [0]), ([1], [1]), ([2], [2]), ([3, 2], [3]), ([4], [4]), ([5, 4], [4, 5]), ([4], [4]), ([7, 4], [4, 7]), ([6, 8, 4], [4, 6, 8]), ([4, 9], [4, 9]), ([10, 4], [10]), ([11], [11]), ([12, 11], [11, 12]), ([13, 11], [11, 13]), ([14, 11], [11, 14]), ([11, 15], [11, 15]), ([16, 11], [16]), ([17], [17]), ([17], [17]), ([19, 17], [17, 19]), ([18, 20, 17], [17, 18, 20]), ([21, 17], [17, 21]), ([17, 22], [17, 22]), ([23, 17], [23]), ([24], [24]), ([24], [24]), ([26, 24], [24, 26]), ([25, 27, 24], [24, 25, 27]), ([28, 24], [24, 28]), ([24, 29], [24, 29])])
def slots_May.B9 : List Nat := [0, 1, 3, 7, 15, 31, 63, 31, 159, 511, 1023, 2047, 4095, 8191, 16383, 32767, 65535, 131071, 262143, 262143, 786431, 2097151, 4194303, 8388607, 16777215, 33554431, 33554431, 100663295, 268435455, 536870911, 1073741823]
theorem slots_May.tab9 : rtab .any (opsOf Tryz.f15 9) = slots_May.T9 := by kernel_rfl
theorem slots_May.bits9 : waitsOk slots_May.T9.2 slots_May.B9 = true := by kernel_rfl
set_option maxHeartbeats 8000000 in
set_option maxRecDepth 100000 in
theorem slots_May.calls (A0 : Option Addr) (c0 : Nat) (l0 : List (S41)) (a1 : Int) (r : Bool) (w : World) (hGT : GTab w) (hr0 : Kd.C k41 w A0 l0.length l0) (hc0 : l0.length ≤ c0) (h : slots_May.f l0 a1 = some r) :
    Calls Tryz.prog 15 #[.slice A0 l0.length c0, .int .i64 a1] w fun e w' => e = .returned (.bool r) ∧ Below w.heap.size w w' := by
  unfold slots_May.f at h
  by_cases hc : l0.length ≤ 100000 ∧ (∀ x, x ∈ l0 → x.f0.size ≤ 1000) ∧ (∀ x, x ∈ l0 → (Lit.int .u64 x.f3).wf = true)
  case neg => rw [if_neg hc] at h; cases h
  rw [if_pos hc] at h
  obtain ⟨hl, hsz, hwf⟩ := hc
  replace h := Option.some.inj h
  by_cases hh : 0 ≤ a1 ∧ a1 ≤ 10
  case neg =>
    rw [decide_eq_false hh, Bool.false_and] at h
    subst h
    have hhi : ∀ W, Calls Tryz.prog 25 #[.int .i64 a1] W fun e w' => e = .returned (.bool false) ∧ Drawn0 W w' := fun W => slots_high.calls a1 false W (by
      unfold slots_high.f
      by_cases c : a1 ≥ 0
      · rw [if_pos c]; congr 1; exact decide_eq_false (by omega)
      · rw [if_neg c])
    clear hr0 hwf hsz hh
    go_enter Tryz.func15, Tryz.ntmps15
    go_wp2_with (go_at_call 25; refine (hhi _).mono ?_; rintro e w1 ⟨rfl, ⟨nd, rfl⟩⟩)
    go_ret
    exact ⟨rfl, pw_below_drewN (Below.refl _ _) nd⟩
  rw [decide_eq_true hh, Bool.true_and] at h
  obtain ⟨n, rfl⟩ := Int.eq_ofNat_of_zero_le hh.1
  have hn : n ≤ 10 := by omega
  rw [Int.toNat_natCast] at h
  have hM : 1 ≤ 2 ^ n ∧ 2 ^ n ≤ 1024 := by
    have a1 : (1 : Nat) ≤ 2 ^ n := Nat.one_le_two_pow
    have a2 : (2 : Nat) ^ n ≤ 2 ^ 10 := Nat.pow_le_pow_right (by omega) hn
    have a3 : (2 : Nat) ^ 10 = 1024 := by decide
    omega
  have hz1 : IntKind.u64.wrap (1 * 2 ^ min ((n : Int).toNat) 64) = ((2 ^ n : Nat) : Int) := by
    have : min ((n : Int).toNat) 64 = n := by omega
    rw [this, Int.one_mul]
    have e : ((2 : Int) ^ n) = ((2 ^ n : Nat) : Int) := by simp
    rw [e]; simp only [IntKind.wrap, IntKind.bits, IntKind.signed]; simp; omega
  generalize 2 ^ n = M at hM hz1 h
  generalize hMi : (M : Int) = Mi at hz1 h
  have hz2 : IntKind.u64.wrap (2 ^ min ((n : Int).toNat) 64) = Mi := by rw [Int.one_mul] at hz1; exact hz1
  have hz3 : IntKind.u64.wrap (1 * 2 ^ n) = Mi := by have : min ((n : Int).toNat) 64 = n := by omega
                                                     rw [this] at hz1; exact hz1
  have hz4 : IntKind.u64.wrap (2 ^ n) = Mi := by rw [Int.one_mul] at hz3; exact hz3
  have hhi : ∀ W, Calls Tryz.prog 25 #[.int .i64 (n : Int)] W fun e w' => e = .returned (.bool true) ∧ Aside0 (Below W.heap.size W w') := fun W => (slots_high.calls (n : Int) true W (by unfold slots_high.f; rw [if_pos (by omega)]; congr 1; exact decide_eq_true (by omega))).mono fun e w' ⟨he, nd, hd⟩ => ⟨he, ⟨by subst hd; exact pw_below_drewN (Below.refl _ _) nd⟩⟩
  have hmm := @run_makeMap Tryz.prog
  have HR := Aside0.mk hr0
  have HW := Aside0.mk hwf
  have HZ := Aside0.mk hsz
  have HG := Aside0.mk hGT
  have HA0 := Aside0.mk h.symm
  clear hr0 hwf hsz hGT h hh hM hMi
  go_enter Tryz.func15, Tryz.ntmps15
  go_wp2_with (go_at_call 25; refine (hhi _).mono ?_; rintro e w1 ⟨rfl, hB1⟩)
  clear hhi
  go_loopw [16] (fun v16 wr => ∃ (i : Nat), v16 = .int .i64 (i : Int) ∧ i ≤ l0.length ∧ Aside0 (CntMap 9 wr w1.heap.size i (cntK keyS (l0.take i))) ∧ Aside0 (CntMap 37 wr (w1.heap.size + 1) i (cntK keyU (l0.take i))) ∧ Aside0 (Below w.heap.size w wr) ∧ Aside0 (r = mayFrom Mi l0 (l0.length - i) i)) (fun v16 _ => l0.length - (intOf v16).toNat)
  case atStart =>
    refine ⟨0, rfl, Nat.zero_le _, ⟨?_⟩, ⟨?_⟩, ⟨?_⟩, HA0⟩
    · rw [List.take_zero, cntK_nil]; exact (CntMap.made 9 w1).below ((Below.refl _ _).alloc (Nat.le_refl _) _)
    · rw [List.take_zero, cntK_nil]
      have := CntMap.made 37 (w1.alloc (.map #[] 0))
      rw [show (w1.alloc (.map #[] 0)).heap.size = w1.heap.size + 1 from Array.size_push ..] at this
      exact this
    · exact (hB1.out.alloc hB1.out.size _).alloc (Nat.le_trans hB1.out.size (by rw [show (w1.alloc (.map #[] 0)).heap.size = w1.heap.size + 1 from Array.size_push ..]; exact Nat.le_succ _)) _
  case round =>
    obtain ⟨i, rfl, hi, HC1, HC2, HB, HA⟩ := hrel
    by_cases hlt : i < l0.length
    case neg =>
      have c0 : decide ((i : Int) < (l0.length : Int)) = false := decide_eq_false (by omega)
      have hnl : ¬ (i : Int) < (l0.length : Int) := by omega
      have hA := HA.out
      rw [show l0.length - i = 0 by omega, mayFrom] at hA
      subst hA
      clear hz1 hz2 hz3 hz4
      go_wp2
      go_ret
      exact ⟨rfl, HB.out⟩
    have c0 : decide ((i : Int) < (l0.length : Int)) = true := decide_eq_true (by omega)
    obtain ⟨ad, hAd, x0, x1, x2, x3, x4⟩ := at_T41 HR.out (i : Int) (by omega) (by omega)
    subst hAd
    replace x0 := (HB.out.cell (World.block_lt_of_cell? w _ x0)).trans x0
    replace x1 := (HB.out.cell (World.block_lt_of_cell? w _ x1)).trans x1
    replace x2 := (HB.out.cell (World.block_lt_of_cell? w _ x2)).trans x2
    replace x3 := (HB.out.cell (World.block_lt_of_cell? w _ x3)).trans x3
    replace x4 := (HB.out.cell (World.block_lt_of_cell? w _ x4)).trans x4
    rw [Int.toNat_natCast] at x0 x1 x2 x3 x4
    have hmem : rd_T41 l0 (i : Int) = l0[i] := by simp [rd_T41, hlt]
    have hwx := HW.out l0[i] (List.getElem_mem hlt)
    have hzx := HZ.out l0[i] (List.getElem_mem hlt)
    have hstepS := cntK_step keyS l0 i hlt
    have hstepU := cntK_step keyU l0 i hlt
    have hgS := cntK_gt keyS l0 i hlt (fun x y => decide (x.f0 = y.f0)) keyS_eq
    have hgU := cntK_gt keyU l0 i hlt (fun x y => decide (x.f3 = y.f3)) keyU_eq
    have hA := HA.out
    rw [show l0.length - i = (l0.length - (i + 1)) + 1 by omega, mayFrom, okAt, List.getElem?_eq_getElem hlt] at hA
    simp only at hA hgS hgU
    rw [← hgS, ← hgU] at hA
    have hleS := (show cntK keyS (l0.take i) (keyS l0[i]) ≤ i by obtain ⟨_, _, _, h, _⟩ := HC1.out; exact h _)
    have hleU := (show cntK keyU (l0.take i) (keyU l0[i]) ≤ i by obtain ⟨_, _, _, h, _⟩ := HC2.out; exact h _)
    rw [← hstepS, ← hstepU] at hA
    clear hgS hgU
    generalize hcS : cntK keyS (l0.take i) = cS at hstepS HC1 hleS hA
    generalize hcU : cntK keyU (l0.take i) = cU at hstepU HC2 hleU hA
    clear hcS hcU
    rw [hmem] at x0 x1 x2 x3 x4
    generalize l0[i] = x at x0 x1 x2 x3 x4 hwx hzx hstepS hstepU hA hleS hleU
    have hkS : keyOf Tryz.prog 9 (.string x.f0) = some (keyS x) := WideMaps.keyOf_string_mk Tryz.underlying9 (by unfold maxLen; omega)
    have hkU : keyOf Tryz.prog 37 (.int .u64 x.f3) = some (keyU x) := Maps.keyOf_int_mk Tryz.underlying37 hwx
    have hlt2 : (i : Int) < (l0.length : Int) := by omega
    have hB0 := HB.out
    obtain ⟨W1, hW1⟩ : ∃ W1, W1 = wr.alloc (.cells #[.string x.f0, .int .u64 x.f1.f0, .int .u64 x.f1.f1, .string x.f2, .int .u64 x.f3] 41) := ⟨_, rfl⟩
    have hb1 : Below wr.heap.size wr W1 := by rw [hW1]; exact (Below.refl _ _).alloc (Nat.le_refl _) _
    have hk1 : W1.heap[wr.heap.size]? = some (.cells #[.string x.f0, .int .u64 x.f1.f0, .int .u64 x.f1.f1, .string x.f2, .int .u64 x.f3] 41 (0, 0)) := by rw [hW1]; exact blk_new _ _
    have C1 := HC1.out.below hb1
    have C2 := HC2.out.below hb1
    have hl1 := HC1.out.lt
    have hl2 := HC2.out.lt
    have hlook1 := C1.look lawS Tryz.underlying77 hkS
    obtain ⟨W2, hup1, C1', hg1⟩ := C1.step lawS Tryz.underlying77 (by omega) hkS (by simp [keyS, WideAt.IsKeyLit]) rfl
    have hk2 := blk_grown hk1 hg1 (by intro e; have := Option.some.inj e; omega)
    have C2' := C2.kept (hg1.block _ C2.lt (by intro e; have := Option.some.inj e; omega))
    have hlook2 := C2'.look lawU Tryz.underlying61 hkU
    obtain ⟨W3, hup2, C2'', hg2⟩ := C2'.step lawU Tryz.underlying61 (by omega) hkU (by simp [keyU, WideAt.IsKeyLit]) rfl
    have hk3 := blk_grown hk2 hg2 (by intro e; have := Option.some.inj e; omega)
    have C1'' := C1'.kept (hg2.block _ C1'.lt (by intro e; have := Option.some.inj e; omega))
    rw [hstepS] at C1''
    rw [hstepU] at C2''
    have HB3 : Aside0 (Below w.heap.size w W3) := ⟨(((hB0.trans (hb1.mono hB0.size)).grown hg1 (Nat.le_trans hB0.size hb1.size) (fun k hk => by cases hk; exact hB1.out.size)).grown hg2 (Nat.le_trans hB0.size (Nat.le_trans hb1.size hg1.size)) (fun k hk => by cases hk; exact Nat.le_trans hB1.out.size (by omega)))⟩
    have hq2 : W2.cell? ⟨wr.heap.size, 4, none⟩ = some (.int .u64 x.f3) := (blk_cell hk2 4).trans rfl
    have hq2f : W2.frozen? ⟨wr.heap.size, 4, none⟩ = false := blk_frozen hk2 4
    have hm1 : (bump cS (keyS x)) (keyS x) = cS (keyS x) + 1 := by unfold bump; rw [if_pos rfl]
    have hm2 : (bump cU (keyU x)) (keyU x) = cU (keyU x) + 1 := by unfold bump; rw [if_pos rfl]
    rw [hm1, hm2] at hA
    have hw1 : IntKind.i64.wrap ((cS (keyS x) : Int) + 1) = (cS (keyS x) : Int) + 1 := by simp [IntKind.wrap, IntKind.bits, IntKind.signed]; omega
    have hw2 : IntKind.i64.wrap ((cU (keyU x) : Int) + 1) = (cU (keyU x) : Int) + 1 := by simp [IntKind.wrap, IntKind.bits, IntKind.signed]; omega
    have HCS : Aside0 (CntMap 9 W3 w1.heap.size (i + 1) (cntK keyS (l0.take (i + 1)))) := ⟨C1''⟩
    have HCU : Aside0 (CntMap 37 W3 (w1.heap.size + 1) (i + 1) (cntK keyU (l0.take (i + 1)))) := ⟨C2''⟩
    have hcm1 : cntK keyS (l0.take (i + 1)) (keyS x) = cS (keyS x) + 1 := by rw [← hstepS]; exact hm1
    have hcm2 : cntK keyU (l0.take (i + 1)) (keyU x) = cU (keyU x) + 1 := by rw [← hstepU]; exact hm2
    have HS : ∀ w' : World, Below W3.heap.size W3 w' → w'.cell? ⟨wr.heap.size, 0, none⟩ = some (.string x.f0) ∧ w'.cell? ⟨wr.heap.size, 3, none⟩ = some (.string x.f2) ∧ w'.cell? ⟨wr.heap.size, 4, none⟩ = some (.int .u64 x.f3) ∧ (Instr.lookup 77 (.map (some w1.heap.size)) (.string x.f0) false).run Tryz.prog w' = .ok (.int .i64 ((cS (keyS x) : Int) + 1)) w' ∧ (Instr.lookup 61 (.map (some (w1.heap.size + 1))) (.int .u64 x.f3) false).run Tryz.prog w' = .ok (.int .i64 ((cU (keyU x) : Int) + 1)) w' := by
      intro w' hb'
      have hk4 := blk_below hk3 hb'
      have g1 := (HCS.out.below hb').look lawS Tryz.underlying77 hkS
      have g2 := (HCU.out.below hb').look lawU Tryz.underlying61 hkU
      rw [hcm1] at g1
      rw [hcm2] at g2
      refine ⟨(blk_cell hk4 0).trans rfl, (blk_cell hk4 3).trans rfl, (blk_cell hk4 4).trans rfl, ?_, ?_⟩
      · push_cast at g1; exact g1
      · push_cast at g2; exact g2
    have HMay : ∀ w', Below w.heap.size w w' → Calls Tryz.prog 45 #[.string x.f0] w' fun e w'' => e = .returned (.bool (mayIdB x.f0)) ∧ Below w'.heap.size w' w'' := fun w' hb' => tag_MayId.calls x.f0 (mayIdB x.f0) w' (HG.out.below hb') (by unfold tag_MayId.f; rw [if_pos hzx])
    rw [show ((cS (keyS x) + 1 : Nat) : Int) = (cS (keyS x) : Int) + 1 from rfl, show ((cU (keyU x) + 1 : Nat) : Int) = (cU (keyU x) : Int) + 1 from rfl] at hA
    generalize (cS (keyS x) : Int) = p1 at hlook1 hup1 hw1 HS hA
    generalize (cU (keyU x) : Int) = p2 at hlook2 hup2 hw2 HS hA
    rw [hW1] at hlook1 hup1
    generalize hg0 : wr.heap.size = g at HS hq2 hq2f hlook2 hup2
    clear hb1 hk1 C1 C2 C1' C2' C1'' C2'' hg1 hg2 hk2 hk3 hkS hkU hstepS hstepU hm1 hm2 hcm1 hcm2 hB0 hW1 hleS hleU hwx hzx hl1 hl2
    go_wp2
    cases hb0 : mayIdB x.f0 with
    | false =>
      rw [hb0] at HMay hA
      simp only [Bool.false_and] at hA
      subst hA
      clear hz1 hz2 hz3 hz4
      refine start_ (n := 31) (S := fun w' => w'.cell? ⟨g, 0, none⟩ = some (.string x.f0) ∧ w'.cell? ⟨g, 3, none⟩ = some (.string x.f2) ∧ w'.cell? ⟨g, 4, none⟩ = some (.int .u64 x.f3) ∧ (Instr.lookup 77 (.map (some w1.heap.size)) (.string x.f0) false).run Tryz.prog w' = .ok (.int .i64 (p1 + 1)) w' ∧ (Instr.lookup 61 (.map (some (w1.heap.size + 1))) (.int .u64 x.f3) false).run Tryz.prog w' = .ok (.int .i64 (p2 + 1)) w') (ds := []) #[false, false, false, false, false, false, false, false, false, false, false, false, false, false, false, false, false, false, false, false, false, false, false, false, false, false, false, false, false, false, false] (by kernel_rfl) rfl rfl (HS _ (Below.refl _ _).drew) (fun hHeld => ?_); refine with_tabW slots_May.tab9 slots_May.bits9 (fun HT_ HW_ => ?_)
      have HSd := fun (w' : World) (hb' : Below W3.drew.heap.size W3.drew w') => HS w' ((Below.refl W3.heap.size W3).drew.trans hb')
      have HBd : Aside0 (Below w.heap.size w W3.drew) := ⟨HB3.out.drew⟩
      have HCSd : Aside0 (CntMap 9 W3.drew w1.heap.size (i + 1) (cntK keyS (l0.take (i + 1)))) := ⟨HCS.out.below (Below.refl _ _).drew⟩
      have HCUd : Aside0 (CntMap 37 W3.drew (w1.heap.size + 1) (i + 1) (cntK keyU (l0.take (i + 1)))) := ⟨HCU.out.below (Below.refl _ _).drew⟩
      generalize W3.drew = wd at hHeld HSd HBd HCSd HCUd ⊢
      refine p_ 0 (some 30) HT_ ?_
      refine t_ 1 (some 31) HT_ HW_ hHeld ?_
      refine one_ (i := 2) (N := some 32) #[true, true, true, false, false, false, false, false, false, false, false, false, false, false, false, false, false, false, false, false, false, false, false, false, false, false, false, false, false, false, false] rfl rfl (one_of HT_.out (by kernel_rfl)) (by decide) (fun K hK => ?_)
      refine goes_ Tryz.func45 (by kernel_rfl) rfl #[.string x.f0] (by rfl) rfl rfl (by (try simp only [List.map_toArray, List.map_cons, List.map_nil]); first | done | rfl) ?_
      refine (HMay wd HBd.out).mono ?_
      rintro e w47 ⟨rfl, hb⟩
      refine ⟨_, rfl, ?_⟩
      have HBe : Aside0 (Below w.heap.size w w47) := ⟨HBd.out.trans (hb.mono HBd.out.size)⟩
      have HCSe := Aside0.mk (HCSd.out.below hb)
      have HCUe := Aside0.mk (HCUd.out.below hb)
      refine hK.out _ _ (HSd _ hb) (fun hHeld => ?_)
      clear hK K hb HSd HBd
      refine norm_ (a' := ?_) ?_ ?_
      rotate_left
      · show Act.put _ (some 32) _ = _
        simp only [Act.put, List.setIfInBounds_toArray, List.set_cons_zero, List.set_cons_succ, i64_w, i32_w]
        rfl
      refine p_ 3 (some 33) HT_ ?_
      refine p_ 4 (some 34) HT_ ?_
      refine o_ 5 (some 35) HT_ ?_
      refine o_ 6 (some 36) HT_ ?_
      refine o_ 7 (some 37) HT_ ?_
      refine o_ 8 (some 38) HT_ ?_
      refine o_ 9 (some 39) HT_ ?_
      refine p_ 10 (some 40) HT_ ?_
      refine p_ 11 (some 41) HT_ ?_
      refine o_ 12 (some 42) HT_ ?_
      refine o_ 13 (some 43) HT_ ?_
      refine o_ 14 (some 44) HT_ ?_
      refine o_ 15 (some 45) HT_ ?_
      refine p_ 16 (some 46) HT_ ?_
      refine p_ 17 (some 47) HT_ ?_
      refine o_ 18 (some 48) HT_ ?_
      refine o_ 19 (some 49) HT_ ?_
      refine o_ 20 (some 50) HT_ ?_
      refine o_ 21 (some 51) HT_ ?_
      refine o_ 22 (some 52) HT_ ?_
      refine p_ 23 (some 53) HT_ ?_
      refine p_ 24 (some 54) HT_ ?_
      refine o_ 25 (some 55) HT_ ?_
      refine o_ 26 (some 56) HT_ ?_
      refine o_ 27 (some 57) HT_ ?_
      refine o_ 28 (some 58) HT_ ?_
      refine o_ 29 (some 59) HT_ ?_
      refine p_ 30 (some 60) HT_ ?_
      refine done_ (done_of HT_.out (by kernel_rfl)) ?_
      try go_wp2
      go_ret
      exact ⟨rfl, HBe.out⟩
    | true =>
      rw [hb0] at HMay hA
      cases hd1 : decide (Mi ≤ x.f3) with
      | true =>
        rw [hd1] at hA
        simp only [Bool.true_and, Bool.not_true, Bool.false_and] at hA
        subst hA
        refine start_ (n := 31) (S := fun w' => w'.cell? ⟨g, 0, none⟩ = some (.string x.f0) ∧ w'.cell? ⟨g, 3, none⟩ = some (.string x.f2) ∧ w'.cell? ⟨g, 4, none⟩ = some (.int .u64 x.f3) ∧ (Instr.lookup 77 (.map (some w1.heap.size)) (.string x.f0) false).run Tryz.prog w' = .ok (.int .i64 (p1 + 1)) w' ∧ (Instr.lookup 61 (.map (some (w1.heap.size + 1))) (.int .u64 x.f3) false).run Tryz.prog w' = .ok (.int .i64 (p2 + 1)) w') (ds := []) #[false, false, false, false, false, false, false, false, false, false, false, false, false, false, false, false, false, false, false, false, false, false, false, false, false, false, false, false, false, false, false] (by kernel_rfl) rfl rfl (HS _ (Below.refl _ _).drew) (fun hHeld => ?_); refine with_tabW slots_May.tab9 slots_May.bits9 (fun HT_ HW_ => ?_)
        have HSd := fun (w' : World) (hb' : Below W3.drew.heap.size W3.drew w') => HS w' ((Below.refl W3.heap.size W3).drew.trans hb')
        have HBd : Aside0 (Below w.heap.size w W3.drew) := ⟨HB3.out.drew⟩
        have HCSd : Aside0 (CntMap 9 W3.drew w1.heap.size (i + 1) (cntK keyS (l0.take (i + 1)))) := ⟨HCS.out.below (Below.refl _ _).drew⟩
        have HCUd : Aside0 (CntMap 37 W3.drew (w1.heap.size + 1) (i + 1) (cntK keyU (l0.take (i + 1)))) := ⟨HCU.out.below (Below.refl _ _).drew⟩
        generalize W3.drew = wd at hHeld HSd HBd HCSd HCUd ⊢
        refine p_ 0 (some 30) HT_ ?_
        refine t_ 1 (some 31) HT_ HW_ hHeld ?_
        refine one_ (i := 2) (N := some 32) #[true, true, true, false, false, false, false, false, false, false, false, false, false, false, false, false, false, false, false, false, false, false, false, false, false, false, false, false, false, false, false] rfl rfl (one_of HT_.out (by kernel_rfl)) (by decide) (fun K hK => ?_)
        refine goes_ Tryz.func45 (by kernel_rfl) rfl #[.string x.f0] (by rfl) rfl rfl (by (try simp only [List.map_toArray, List.map_cons, List.map_nil]); first | done | rfl) ?_
        refine (HMay wd HBd.out).mono ?_
        rintro e w47 ⟨rfl, hb⟩
        refine ⟨_, rfl, ?_⟩
        have HBe : Aside0 (Below w.heap.size w w47) := ⟨HBd.out.trans (hb.mono HBd.out.size)⟩
        have HCSe := Aside0.mk (HCSd.out.below hb)
        have HCUe := Aside0.mk (HCUd.out.below hb)
        refine hK.out _ _ (HSd _ hb) (fun hHeld => ?_)
        clear hK K hb HSd HBd
        refine norm_ (a' := ?_) ?_ ?_
        rotate_left
        · show Act.put _ (some 32) _ = _
          simp only [Act.put, List.setIfInBounds_toArray, List.set_cons_zero, List.set_cons_succ, i64_w, i32_w]
          rfl
        refine p_ 3 (some 33) HT_ ?_
        refine p_ 4 (some 34) HT_ ?_
        refine p_ 5 (some 35) HT_ ?_
        refine t_ 6 (some 36) HT_ HW_ hHeld ?_
        refine p_ 7 (some 37) HT_ ?_
        refine p_ 8 (some 38) HT_ ?_
        refine p_ 9 (some 39) HT_ ?_
        refine p_ 10 (some 40) HT_ ?_
        refine p_ 11 (some 41) HT_ ?_
        refine o_ 12 (some 42) HT_ ?_
        refine o_ 13 (some 43) HT_ ?_
        refine o_ 14 (some 44) HT_ ?_
        refine o_ 15 (some 45) HT_ ?_
        refine p_ 16 (some 46) HT_ ?_
        refine p_ 17 (some 47) HT_ ?_
        refine o_ 18 (some 48) HT_ ?_
        refine o_ 19 (some 49) HT_ ?_
        refine o_ 20 (some 50) HT_ ?_
        refine o_ 21 (some 51) HT_ ?_
        refine o_ 22 (some 52) HT_ ?_
        refine p_ 23 (some 53) HT_ ?_
        refine p_ 24 (some 54) HT_ ?_
        refine o_ 25 (some 55) HT_ ?_
        refine o_ 26 (some 56) HT_ ?_
        refine o_ 27 (some 57) HT_ ?_
        refine o_ 28 (some 58) HT_ ?_
        refine o_ 29 (some 59) HT_ ?_
        refine p_ 30 (some 60) HT_ ?_
        refine done_ (done_of HT_.out (by kernel_rfl)) ?_
        try go_wp2
        go_ret
        exact ⟨rfl, HBe.out⟩
      | false =>
        rw [hd1] at hA
        cases hd2 : decide (32 < (x.f2.size : Int)) with
        | true =>
          rw [hd2] at hA
          simp only [Bool.true_and, Bool.not_true, Bool.not_false, Bool.false_and] at hA
          subst hA
          refine start_ (n := 31) (S := fun w' => w'.cell? ⟨g, 0, none⟩ = some (.string x.f0) ∧ w'.cell? ⟨g, 3, none⟩ = some (.string x.f2) ∧ w'.cell? ⟨g, 4, none⟩ = some (.int .u64 x.f3) ∧ (Instr.lookup 77 (.map (some w1.heap.size)) (.string x.f0) false).run Tryz.prog w' = .ok (.int .i64 (p1 + 1)) w' ∧ (Instr.lookup 61 (.map (some (w1.heap.size + 1))) (.int .u64 x.f3) false).run Tryz.prog w' = .ok (.int .i64 (p2 + 1)) w') (ds := []) #[false, false, false, false, false, false, false, false, false, false, false, false, false, false, false, false, false, false, false, false, false, false, false, false, false, false, false, false, false, false, false] (by kernel_rfl) rfl rfl (HS _ (Below.refl _ _).drew) (fun hHeld => ?_); refine with_tabW slots_May.tab9 slots_May.bits9 (fun HT_ HW_ => ?_)
          have HSd := fun (w' : World) (hb' : Below W3.drew.heap.size W3.drew w') => HS w' ((Below.refl W3.heap.size W3).drew.trans hb')
          have HBd : Aside0 (Below w.heap.size w W3.drew) := ⟨HB3.out.drew⟩
          have HCSd : Aside0 (CntMap 9 W3.drew w1.heap.size (i + 1) (cntK keyS (l0.take (i + 1)))) := ⟨HCS.out.below (Below.refl _ _).drew⟩
          have HCUd : Aside0 (CntMap 37 W3.drew (w1.heap.size + 1) (i + 1) (cntK keyU (l0.take (i + 1)))) := ⟨HCU.out.below (Below.refl _ _).drew⟩
          generalize W3.drew = wd at hHeld HSd HBd HCSd HCUd ⊢
          refine p_ 0 (some 30) HT_ ?_
          refine t_ 1 (some 31) HT_ HW_ hHeld ?_
          refine one_ (i := 2) (N := some 32) #[true, true, true, false, false, false, false, false, false, false, false, false, false, false, false, false, false, false, false, false, false, false, false, false, false, false, false, false, false, false, false] rfl rfl (one_of HT_.out (by kernel_rfl)) (by decide) (fun K hK => ?_)
          refine goes_ Tryz.func45 (by kernel_rfl) rfl #[.string x.f0] (by rfl) rfl rfl (by (try simp only [List.map_toArray, List.map_cons, List.map_nil]); first | done | rfl) ?_
          refine (HMay wd HBd.out).mono ?_
          rintro e w47 ⟨rfl, hb⟩
          refine ⟨_, rfl, ?_⟩
          have HBe : Aside0 (Below w.heap.size w w47) := ⟨HBd.out.trans (hb.mono HBd.out.size)⟩
          have HCSe := Aside0.mk (HCSd.out.below hb)
          have HCUe := Aside0.mk (HCUd.out.below hb)
          refine hK.out _ _ (HSd _ hb) (fun hHeld => ?_)
          clear hK K hb HSd HBd
          refine norm_ (a' := ?_) ?_ ?_
          rotate_left
          · show Act.put _ (some 32) _ = _
            simp only [Act.put, List.setIfInBounds_toArray, List.set_cons_zero, List.set_cons_succ, i64_w, i32_w]
            rfl
          refine p_ 3 (some 33) HT_ ?_
          refine p_ 4 (some 34) HT_ ?_
          refine p_ 5 (some 35) HT_ ?_
          refine t_ 6 (some 36) HT_ HW_ hHeld ?_
          refine p_ 7 (some 37) HT_ ?_
          refine p_ 8 (some 38) HT_ ?_
          refine p_ 9 (some 39) HT_ ?_
          refine p_ 10 (some 40) HT_ ?_
          refine p_ 11 (some 41) HT_ ?_
          refine p_ 12 (some 42) HT_ ?_
          refine t_ 13 (some 43) HT_ HW_ hHeld ?_
          refine p_ 14 (some 44) HT_ ?_
          refine p_ 15 (some 45) HT_ ?_
          refine p_ 16 (some 46) HT_ ?_
          refine p_ 17 (some 47) HT_ ?_
          refine o_ 18 (some 48) HT_ ?_
          refine o_ 19 (some 49) HT_ ?_
          refine o_ 20 (some 50) HT_ ?_
          refine o_ 21 (some 51) HT_ ?_
          refine o_ 22 (some 52) HT_ ?_
          refine p_ 23 (some 53) HT_ ?_
          refine p_ 24 (some 54) HT_ ?_
          refine o_ 25 (some 55) HT_ ?_
          refine o_ 26 (some 56) HT_ ?_
          refine o_ 27 (some 57) HT_ ?_
          refine o_ 28 (some 58) HT_ ?_
          refine o_ 29 (some 59) HT_ ?_
          refine p_ 30 (some 60) HT_ ?_
          refine done_ (done_of HT_.out (by kernel_rfl)) ?_
          try go_wp2
          go_ret
          exact ⟨rfl, HBe.out⟩
        | false =>
          rw [hd2] at hA
          cases hd3 : decide (1 < p1 + 1) with
          | true =>
            rw [hd3] at hA
            simp only [Bool.true_and, Bool.not_true, Bool.not_false, Bool.false_and] at hA
            subst hA
            refine start_ (n := 31) (S := fun w' => w'.cell? ⟨g, 0, none⟩ = some (.string x.f0) ∧ w'.cell? ⟨g, 3, none⟩ = some (.string x.f2) ∧ w'.cell? ⟨g, 4, none⟩ = some (.int .u64 x.f3) ∧ (Instr.lookup 77 (.map (some w1.heap.size)) (.string x.f0) false).run Tryz.prog w' = .ok (.int .i64 (p1 + 1)) w' ∧ (Instr.lookup 61 (.map (some (w1.heap.size + 1))) (.int .u64 x.f3) false).run Tryz.prog w' = .ok (.int .i64 (p2 + 1)) w') (ds := []) #[false, false, false, false, false, false, false, false, false, false, false, false, false, false, false, false, false, false, false, false, false, false, false, false, false, false, false, false, false, false, false] (by kernel_rfl) rfl rfl (HS _ (Below.refl _ _).drew) (fun hHeld => ?_); refine with_tabW slots_May.tab9 slots_May.bits9 (fun HT_ HW_ => ?_)
            have HSd := fun (w' : World) (hb' : Below W3.drew.heap.size W3.drew w') => HS w' ((Below.refl W3.heap.size W3).drew.trans hb')
            have HBd : Aside0 (Below w.heap.size w W3.drew) := ⟨HB3.out.drew⟩
            have HCSd : Aside0 (CntMap 9 W3.drew w1.heap.size (i + 1) (cntK keyS (l0.take (i + 1)))) := ⟨HCS.out.below (Below.refl _ _).drew⟩
            have HCUd : Aside0 (CntMap 37 W3.drew (w1.heap.size + 1) (i + 1) (cntK keyU (l0.take (i + 1)))) := ⟨HCU.out.below (Below.refl _ _).drew⟩
            generalize W3.drew = wd at hHeld HSd HBd HCSd HCUd ⊢
            refine p_ 0 (some 30) HT_ ?_
            refine t_ 1 (some 31) HT_ HW_ hHeld ?_
            refine one_ (i := 2) (N := some 32) #[true, true, true, false, false, false, false, false, false, false, false, false, false, false, false, false, false, false, false, false, false, false, false, false, false, false, false, false, false, false, false] rfl rfl (one_of HT_.out (by kernel_rfl)) (by decide) (fun K hK => ?_)
            refine goes_ Tryz.func45 (by kernel_rfl) rfl #[.string x.f0] (by rfl) rfl rfl (by (try simp only [List.map_toArray, List.map_cons, List.map_nil]); first | done | rfl) ?_
            refine (HMay wd HBd.out).mono ?_
            rintro e w47 ⟨rfl, hb⟩
            refine ⟨_, rfl, ?_⟩
            have HBe : Aside0 (Below w.heap.size w w47) := ⟨HBd.out.trans (hb.mono HBd.out.size)⟩
            have HCSe := Aside0.mk (HCSd.out.below hb)
            have HCUe := Aside0.mk (HCUd.out.below hb)
            refine hK.out _ _ (HSd _ hb) (fun hHeld => ?_)
            clear hK K hb HSd HBd
            refine norm_ (a' := ?_) ?_ ?_
            rotate_left
            · show Act.put _ (some 32) _ = _
              simp only [Act.put, List.setIfInBounds_toArray, List.set_cons_zero, List.set_cons_succ, i64_w, i32_w]
              rfl
            refine p_ 3 (some 33) HT_ ?_
            refine p_ 4 (some 34) HT_ ?_
            refine p_ 5 (some 35) HT_ ?_
            refine t_ 6 (some 36) HT_ HW_ hHeld ?_
            refine p_ 7 (some 37) HT_ ?_
            refine p_ 8 (some 38) HT_ ?_
            refine p_ 9 (some 39) HT_ ?_
            refine p_ 10 (some 40) HT_ ?_
            refine p_ 11 (some 41) HT_ ?_
            refine p_ 12 (some 42) HT_ ?_
            refine t_ 13 (some 43) HT_ HW_ hHeld ?_
            refine p_ 14 (some 44) HT_ ?_
            refine p_ 15 (some 45) HT_ ?_
            refine p_ 16 (some 46) HT_ ?_
            refine p_ 17 (some 47) HT_ ?_
            refine p_ 18 (some 48) HT_ ?_
            refine p_ 19 (some 49) HT_ ?_
            refine t_ 20 (some 50) HT_ HW_ hHeld ?_
            refine t_ 21 (some 51) HT_ HW_ hHeld ?_
            refine p_ 22 (some 52) HT_ ?_
            refine p_ 23 (some 53) HT_ ?_
            refine p_ 24 (some 54) HT_ ?_
            refine o_ 25 (some 55) HT_ ?_
            refine o_ 26 (some 56) HT_ ?_
            refine o_ 27 (some 57) HT_ ?_
            refine o_ 28 (some 58) HT_ ?_
            refine o_ 29 (some 59) HT_ ?_
            refine p_ 30 (some 60) HT_ ?_
            refine done_ (done_of HT_.out (by kernel_rfl)) ?_
            try go_wp2
            go_ret
            exact ⟨rfl, HBe.out⟩
          | false =>
            rw [hd3] at hA
            cases hd4 : decide (1 < p2 + 1) with
            | true =>
              rw [hd4] at hA
              simp only [Bool.true_and, Bool.not_true, Bool.not_false, Bool.false_and] at hA
              subst hA
              refine start_ (n := 31) (S := fun w' => w'.cell? ⟨g, 0, none⟩ = some (.string x.f0) ∧ w'.cell? ⟨g, 3, none⟩ = some (.string x.f2) ∧ w'.cell? ⟨g, 4, none⟩ = some (.int .u64 x.f3) ∧ (Instr.lookup 77 (.map (some w1.heap.size)) (.string x.f0) false).run Tryz.prog w' = .ok (.int .i64 (p1 + 1)) w' ∧ (Instr.lookup 61 (.map (some (w1.heap.size + 1))) (.int .u64 x.f3) false).run Tryz.prog w' = .ok (.int .i64 (p2 + 1)) w') (ds := []) #[false, false, false, false, false, false, false, false, false, false, false, false, false, false, false, false, false, false, false, false, false, false, false, false, false, false, false, false, false, false, false] (by kernel_rfl) rfl rfl (HS _ (Below.refl _ _).drew) (fun hHeld => ?_); refine with_tabW slots_May.tab9 slots_May.bits9 (fun HT_ HW_ => ?_)
              have HSd := fun (w' : World) (hb' : Below W3.drew.heap.size W3.drew w') => HS w' ((Below.refl W3.heap.size W3).drew.trans hb')
              have HBd : Aside0 (Below w.heap.size w W3.drew) := ⟨HB3.out.drew⟩
              have HCSd : Aside0 (CntMap 9 W3.drew w1.heap.size (i + 1) (cntK keyS (l0.take (i + 1)))) := ⟨HCS.out.below (Below.refl _ _).drew⟩
              have HCUd : Aside0 (CntMap 37 W3.drew (w1.heap.size + 1) (i + 1) (cntK keyU (l0.take (i + 1)))) := ⟨HCU.out.below (Below.refl _ _).drew⟩
              generalize W3.drew = wd at hHeld HSd HBd HCSd HCUd ⊢
              refine p_ 0 (some 30) HT_ ?_
              refine t_ 1 (some 31) HT_ HW_ hHeld ?_
              refine one_ (i := 2) (N := some 32) #[true, true, true, false, false, false, false, false, false, false, false, false, false, false, false, false, false, false, false, false, false, false, false, false, false, false, false, false, false, false, false] rfl rfl (one_of HT_.out (by kernel_rfl)) (by decide) (fun K hK => ?_)
              refine goes_ Tryz.func45 (by kernel_rfl) rfl #[.string x.f0] (by rfl) rfl rfl (by (try simp only [List.map_toArray, List.map_cons, List.map_nil]); first | done | rfl) ?_
              refine (HMay wd HBd.out).mono ?_
              rintro e w47 ⟨rfl, hb⟩
              refine ⟨_, rfl, ?_⟩
              have HBe : Aside0 (Below w.heap.size w w47) := ⟨HBd.out.trans (hb.mono HBd.out.size)⟩
              have HCSe := Aside0.mk (HCSd.out.below hb)
              have HCUe := Aside0.mk (HCUd.out.below hb)
              refine hK.out _ _ (HSd _ hb) (fun hHeld => ?_)
              clear hK K hb HSd HBd
              refine norm_ (a' := ?_) ?_ ?_
              rotate_left
              · show Act.put _ (some 32) _ = _
                simp only [Act.put, List.setIfInBounds_toArray, List.set_cons_zero, List.set_cons_succ, i64_w, i32_w]
                rfl
              refine p_ 3 (some 33) HT_ ?_
              refine p_ 4 (some 34) HT_ ?_
              refine p_ 5 (some 35) HT_ ?_
              refine t_ 6 (some 36) HT_ HW_ hHeld ?_
              refine p_ 7 (some 37) HT_ ?_
              refine p_ 8 (some 38) HT_ ?_
              refine p_ 9 (some 39) HT_ ?_
              refine p_ 10 (some 40) HT_ ?_
              refine p_ 11 (some 41) HT_ ?_
              refine p_ 12 (some 42) HT_ ?_
              refine t_ 13 (some 43) HT_ HW_ hHeld ?_
              refine p_ 14 (some 44) HT_ ?_
              refine p_ 15 (some 45) HT_ ?_
              refine p_ 16 (some 46) HT_ ?_
              refine p_ 17 (some 47) HT_ ?_
              refine p_ 18 (some 48) HT_ ?_
              refine p_ 19 (some 49) HT_ ?_
              refine t_ 20 (some 50) HT_ HW_ hHeld ?_
              refine t_ 21 (some 51) HT_ HW_ hHeld ?_
              refine p_ 22 (some 52) HT_ ?_
              refine p_ 23 (some 53) HT_ ?_
              refine p_ 24 (some 54) HT_ ?_
              refine p_ 25 (some 55) HT_ ?_
              refine p_ 26 (some 56) HT_ ?_
              refine t_ 27 (some 57) HT_ HW_ hHeld ?_
              refine t_ 28 (some 58) HT_ HW_ hHeld ?_
              refine p_ 29 (some 59) HT_ ?_
              refine p_ 30 (some 60) HT_ ?_
              refine done_ (done_of HT_.out (by kernel_rfl)) ?_
              try go_wp2
              go_ret
              exact ⟨rfl, HBe.out⟩
            | false =>
              rw [hd4] at hA
              simp only [Bool.true_and, Bool.not_false] at hA
              have HA2 := Aside0.mk hA
              clear hA HA
              refine start_ (n := 31) (S := fun w' => w'.cell? ⟨g, 0, none⟩ = some (.string x.f0) ∧ w'.cell? ⟨g, 3, none⟩ = some (.string x.f2) ∧ w'.cell? ⟨g, 4, none⟩ = some (.int .u64 x.f3) ∧ (Instr.lookup 77 (.map (some w1.heap.size)) (.string x.f0) false).run Tryz.prog w' = .ok (.int .i64 (p1 + 1)) w' ∧ (Instr.lookup 61 (.map (some (w1.heap.size + 1))) (.int .u64 x.f3) false).run Tryz.prog w' = .ok (.int .i64 (p2 + 1)) w') (ds := []) #[false, false, false, false, false, false, false, false, false, false, false, false, false, false, false, false, false, false, false, false, false, false, false, false, false, false, false, false, false, false, false] (by kernel_rfl) rfl rfl (HS _ (Below.refl _ _).drew) (fun hHeld => ?_); refine with_tabW slots_May.tab9 slots_May.bits9 (fun HT_ HW_ => ?_)
              have HSd := fun (w' : World) (hb' : Below W3.drew.heap.size W3.drew w') => HS w' ((Below.refl W3.heap.size W3).drew.trans hb')
              have HBd : Aside0 (Below w.heap.size w W3.drew) := ⟨HB3.out.drew⟩
              have HCSd : Aside0 (CntMap 9 W3.drew w1.heap.size (i + 1) (cntK keyS (l0.take (i + 1)))) := ⟨HCS.out.below (Below.refl _ _).drew⟩
              have HCUd : Aside0 (CntMap 37 W3.drew (w1.heap.size + 1) (i + 1) (cntK keyU (l0.take (i + 1)))) := ⟨HCU.out.below (Below.refl _ _).drew⟩
              generalize W3.drew = wd at hHeld HSd HBd HCSd HCUd ⊢
              refine p_ 0 (some 30) HT_ ?_
              refine t_ 1 (some 31) HT_ HW_ hHeld ?_
              refine one_ (i := 2) (N := some 32) #[true, true, true, false, false, false, false, false, false, false, false, false, false, false, false, false, false, false, false, false, false, false, false, false, false, false, false, false, false, false, false] rfl rfl (one_of HT_.out (by kernel_rfl)) (by decide) (fun K hK => ?_)
              refine goes_ Tryz.func45 (by kernel_rfl) rfl #[.string x.f0] (by rfl) rfl rfl (by (try simp only [List.map_toArray, List.map_cons, List.map_nil]); first | done | rfl) ?_
              refine (HMay wd HBd.out).mono ?_
              rintro e w47 ⟨rfl, hb⟩
              refine ⟨_, rfl, ?_⟩
              have HBe : Aside0 (Below w.heap.size w w47) := ⟨HBd.out.trans (hb.mono HBd.out.size)⟩
              have HCSe := Aside0.mk (HCSd.out.below hb)
              have HCUe := Aside0.mk (HCUd.out.below hb)
              refine hK.out _ _ (HSd _ hb) (fun hHeld => ?_)
              clear hK K hb HSd HBd
              refine norm_ (a' := ?_) ?_ ?_
              rotate_left
              · show Act.put _ (some 32) _ = _
                simp only [Act.put, List.setIfInBounds_toArray, List.set_cons_zero, List.set_cons_succ, i64_w, i32_w]
                rfl
              refine p_ 3 (some 33) HT_ ?_
              refine p_ 4 (some 34) HT_ ?_
              refine p_ 5 (some 35) HT_ ?_
              refine t_ 6 (some 36) HT_ HW_ hHeld ?_
              refine p_ 7 (some 37) HT_ ?_
              refine p_ 8 (some 38) HT_ ?_
              refine p_ 9 (some 39) HT_ ?_
              refine p_ 10 (some 40) HT_ ?_
              refine p_ 11 (some 41) HT_ ?_
              refine p_ 12 (some 42) HT_ ?_
              refine t_ 13 (some 43) HT_ HW_ hHeld ?_
              refine p_ 14 (some 44) HT_ ?_
              refine p_ 15 (some 45) HT_ ?_
              refine p_ 16 (some 46) HT_ ?_
              refine p_ 17 (some 47) HT_ ?_
              refine p_ 18 (some 48) HT_ ?_
              refine p_ 19 (some 49) HT_ ?_
              refine t_ 20 (some 50) HT_ HW_ hHeld ?_
              refine t_ 21 (some 51) HT_ HW_ hHeld ?_
              refine p_ 22 (some 52) HT_ ?_
              refine p_ 23 (some 53) HT_ ?_
              refine p_ 24 (some 54) HT_ ?_
              refine p_ 25 (some 55) HT_ ?_
              refine p_ 26 (some 56) HT_ ?_
              refine t_ 27 (some 57) HT_ HW_ hHeld ?_
              refine t_ 28 (some 58) HT_ HW_ hHeld ?_
              refine p_ 29 (some 59) HT_ ?_
              refine p_ 30 (some 60) HT_ ?_
              refine done_ (done_of HT_.out (by kernel_rfl)) ?_
              try go_wp2
              go_roundw
              case rel => exact ⟨i + 1, by go_num, by omega, HCSe, HCUe, HBe, HA2⟩
              case measure => simp [intOf]; omega
end Go.Proofs.YtfijhbfdkcajjaaGreatDoor.Pr
