/- The contract of slots.Free (a map that counts), in the print's form. -/
import Derived.Test.YtfijhbfdkcajjaaGreatDoorFinds
import Derived.Test.YtfijhbfdkcajjaaGreatDoorPrx5
import Derived.Maps.OwnOps
import Derived.Maps.Views
import Derived.LoopTactic
namespace Go.Proofs.YtfijhbfdkcajjaaGreatDoor.Pr
open Go.RowKit Go.Proofs.YtfijhbfdkcajjaaGreatDoorW.PrintWords Go.Proofs.YtfijhbfdkcajjaaGreatDoorW.PrintLast Go.Proofs.YtfijhbfdkcajjaaGreatDoorW.PrintMore
set_option linter.unusedVariables false
set_option linter.unusedSimpArgs false

/-! ### maps that count -/
theorem zeroI (w : World) : (zeroValue 3).run Tryz.prog w = .ok (.int .i64 0) w := by kernel_rfl
theorem lawU : Maps.Keyed Tryz.prog 37 := Maps.int_keyed Tryz.underlying37
theorem lawS : Maps.Keyed Tryz.prog 9 := Maps.string_keyed Tryz.underlying9
/-- Block B is a map of at most n entries that says c. -/
def CntMap (kt : TypeId) (W : World) (B n : Nat) (c : Lit → Nat) : Prop :=
  ∃ D : DataW Unit, W.ownsMap Tryz.prog kt (plainElem Tryz.prog 3) B n D ∧ Maps.IsMap D ∧ (∀ kl, c kl ≤ n) ∧ ∀ kl, D.atKey kl (.lit (.int .i64 0)) = .lit (.int .i64 (c kl : Int))
theorem CntMap.made (kt : TypeId) (w : World) : CntMap kt (w.alloc (.map #[] 0)) w.heap.size 0 (fun _ => 0) :=
  ⟨.map [], World.ownsMap_made w _ _ _, Maps.isMap_empty, fun _ => Nat.le_refl _, fun kl => rfl⟩
theorem CntMap.lt {kt : TypeId} {W : World} {B n : Nat} {c : Lit → Nat} (h : CntMap kt W B n c) : B < W.heap.size := by
  obtain ⟨D, h, _⟩ := h; exact h.lt
theorem CntMap.kept {kt : TypeId} {W W1 : World} {B n : Nat} {c : Lit → Nat} (h : CntMap kt W B n c) (hh : W1.heap[B]? = W.heap[B]?) : CntMap kt W1 B n c := by
  obtain ⟨D, ⟨es, clock, hb, F, hs, hD⟩, h2⟩ := h
  exact ⟨D, ⟨es, clock, hh.trans hb, F, hs, hD⟩, h2⟩
theorem CntMap.below {kt : TypeId} {W W1 : World} {B n : Nat} {c : Lit → Nat} (h : CntMap kt W B n c) (hb : Below W.heap.size W W1) : CntMap kt W1 B n c := h.kept (hb.block B h.lt)
set_option maxRecDepth 100000 in
theorem CntMap.look {kt t : TypeId} {W : World} {B n : Nat} {c : Lit → Nat} (h : CntMap kt W B n c) (K : Maps.Keyed Tryz.prog kt) (ht : Tryz.prog.underlying t = some (.map kt 3)) {key : Value} {kl : Lit} (hkey : keyOf Tryz.prog kt key = some kl) :
    (Instr.lookup t (.map (some B)) key false).run Tryz.prog W = .ok (.int .i64 (c kl : Int)) W := by
  obtain ⟨D, hown, _, _, hc⟩ := h
  obtain ⟨x, hrun, hat, _⟩ := hown.lookup_int K ht Tryz.underlying3 (zeroI _) hkey
  rw [hc kl] at hat
  injection hat with h1
  injection h1 with _ h2
  rw [h2]; exact hrun
open Classical in
noncomputable def bump (c : Lit → Nat) (kl : Lit) : Lit → Nat := fun l => if l = kl then c l + 1 else c l
set_option maxRecDepth 100000 in
theorem CntMap.step {kt t : TypeId} {W : World} {B n : Nat} {c : Lit → Nat} (h : CntMap kt W B n c) (K : Maps.Keyed Tryz.prog kt) (ht : Tryz.prog.underlying t = some (.map kt 3)) (hn : n < 1000000) {key : Value} {kl : Lit} (hkey : keyOf Tryz.prog kt key = some kl) (hk : WideAt.IsKeyLit kl) {v : Int} (hv : v = (c kl : Int) + 1) :
    ∃ W1, (Instr.mapUpdate t (.map (some B)) key (.int .i64 v)).run Tryz.prog W = .ok () W1 ∧ CntMap kt W1 B (n + 1) (bump c kl) ∧ W.grownBy W1 (some B) := by
  obtain ⟨D, hown, hD, hle, hc⟩ := h
  have hcn := hle kl
  have hwf : (Lit.int .i64 v).wf = true := by simp [Lit.wf, IntKind.min, IntKind.max, IntKind.signed, IntKind.bits]; omega
  obtain ⟨W1, hrun, h1, h2⟩ := hown.update K ht (by unfold maxLen; omega) hkey (plainElem_int Tryz.underlying3 hwf)
  refine ⟨W1, hrun, ⟨_, h1, hD.put _ _, fun l => ?_, fun l => ?_⟩, h2⟩
  · unfold bump; have := hle l; by_cases e : l = kl
    · rw [if_pos e]; omega
    · rw [if_neg e]; omega
  · unfold bump
    by_cases e : l = kl
    · subst e; rw [if_pos rfl, Maps.atKey_put_same hD hk, hv]; push_cast; rfl
    · rw [if_neg e, Maps.atKey_put_other e]; exact hc l

/-! ### slots.of -/
open Classical in
/-- How many have the key. -/
noncomputable def cntK {α : Type} (key : α → Lit) (l : List α) (kl : Lit) : Nat := l.countP (fun x => decide (key x = kl))
theorem cntK_nil {α : Type} (key : α → Lit) : cntK key [] = fun _ => 0 := by funext kl; simp [cntK]
theorem cntK_step {α : Type} (key : α → Lit) (l : List α) (i : Nat) (h : i < l.length) : bump (cntK key (l.take i)) (key l[i]) = cntK key (l.take (i + 1)) := by
  funext kl
  unfold bump cntK
  rw [List.take_succ_eq_append_getElem h, List.countP_append, List.countP_singleton]
  by_cases e : kl = key l[i]
  · rw [if_pos e, if_pos (by simp [e])]
  · rw [if_neg e, if_neg (by simp; exact fun h => e h.symm), Nat.add_zero]
def keyU (x : S41) : Lit := .int .u64 x.f3
set_option maxHeartbeats 4000000 in
set_option maxRecDepth 100000 in
theorem of_calls (A : Option Addr) (c : Nat) (l : List S41) (w : World) (hr : Kd.C k41 w A l.length l) (hl : l.length ≤ 100000) (hw : ∀ x, x ∈ l → (Lit.int .u64 x.f3).wf = true) :
    Calls Tryz.prog 27 #[.slice A l.length c] w fun e w' => ∃ B, e = .returned (.map (some B)) ∧ w.heap.size ≤ B ∧ CntMap 37 w' B l.length (cntK keyU l) ∧ Below w.heap.size w w' := by
  have hmm := @run_makeMap Tryz.prog
  have HR := Aside0.mk hr
  have HW := Aside0.mk hw
  clear hr hw
  go_enter Tryz.func27, Tryz.ntmps27
  go_wp2
  go_loopw [9] (fun v9 wr => ∃ (i : Nat), v9 = .int .i64 (i : Int) ∧ i ≤ l.length ∧ Aside0 (CntMap 37 wr w.heap.size i (cntK keyU (l.take i))) ∧ Aside0 (Below w.heap.size w wr)) (fun v9 _ => l.length - (intOf v9).toNat)
  case atStart => exact ⟨0, rfl, Nat.zero_le _, ⟨by rw [List.take_zero, cntK_nil]; exact CntMap.made 37 w⟩, ⟨(Below.refl _ _).alloc (Nat.le_refl _) _⟩⟩
  case round =>
    obtain ⟨i, rfl, hi, HC, HB⟩ := hrel
    by_cases hlt : i < l.length
    · have c0 : decide ((i : Int) < (l.length : Int)) = true := decide_eq_true (by omega)
      obtain ⟨ad, hA, x0, x1, x2, x3, x4⟩ := at_T41 HR.out (i : Int) (by omega) (by omega)
      subst hA
      replace x0 := (HB.out.cell (World.block_lt_of_cell? w _ x0)).trans x0
      replace x1 := (HB.out.cell (World.block_lt_of_cell? w _ x1)).trans x1
      replace x2 := (HB.out.cell (World.block_lt_of_cell? w _ x2)).trans x2
      replace x3 := (HB.out.cell (World.block_lt_of_cell? w _ x3)).trans x3
      replace x4 := (HB.out.cell (World.block_lt_of_cell? w _ x4)).trans x4
      rw [Int.toNat_natCast] at x0 x1 x2 x3 x4
      have hmem : rd_T41 l (i : Int) = l[i] := by simp [rd_T41, hlt]
      have hwx := HW.out l[i] (List.getElem_mem hlt)
      have hstep := cntK_step keyU l i hlt
      generalize hcn0 : cntK keyU (l.take i) = cn at hstep HC
      clear hcn0
      rw [hmem] at x0 x1 x2 x3 x4
      generalize l[i] = x at x0 x1 x2 x3 x4 hwx hstep
      have hkey : keyOf Tryz.prog 37 (.int .u64 x.f3) = some (.int .u64 x.f3) := Maps.keyOf_int_mk Tryz.underlying37 hwx
      have hlt2 : (i : Int) < (l.length : Int) := by omega
      obtain ⟨W1, hW1⟩ : ∃ W1, W1 = wr.alloc (.cells #[.string x.f0, .int .u64 x.f1.f0, .int .u64 x.f1.f1, .string x.f2, .int .u64 x.f3] 41) := ⟨_, rfl⟩
      have hb1 : Below wr.heap.size wr W1 := by rw [hW1]; exact (Below.refl _ _).alloc (Nat.le_refl _) _
      have HC1 := HC.out.below hb1
      have hlook := HC1.look lawU Tryz.underlying62 hkey
      obtain ⟨W2, hup, HC2, hg⟩ := HC1.step lawU Tryz.underlying62 (by omega) hkey (by simp [WideAt.IsKeyLit]) rfl
      have hcn := (show cn (.int .u64 x.f3) ≤ i by obtain ⟨_, _, _, h, _⟩ := HC.out; exact h _)
      have HB2 : Aside0 (Below w.heap.size w W2) := ⟨(HB.out.trans (hb1.mono HB.out.size)).grown hg (Nat.le_trans HB.out.size hb1.size) (fun k hk => by cases hk; exact Nat.le_refl _)⟩
      rw [show bump cn (.int .u64 x.f3) = _ from hstep] at HC2
      have HC3 := Aside0.mk HC2
      have hwr : IntKind.i64.wrap ((cn (.int .u64 x.f3) : Int) + 1) = (cn (.int .u64 x.f3) : Int) + 1 := by simp [IntKind.wrap, IntKind.bits, IntKind.signed]; omega
      generalize ((cn (.int .u64 x.f3) : Nat) : Int) = m at hlook hup hwr
      rw [hW1] at hlook hup
      clear hkey HC1 HC2 hg hb1 hW1 hstep HC
      go_wp2
      go_roundw
      case rel => exact ⟨i + 1, by go_num, by omega, HC3, HB2⟩
      case measure => simp [intOf]; omega
    · have c0 : decide ((i : Int) < (l.length : Int)) = false := decide_eq_false (by omega)
      have e : i = l.length := by omega
      have hnl : ¬ (i : Int) < (l.length : Int) := by omega
      go_wp2
      go_ret
      rw [e, List.take_length] at HC
      exact ⟨_, rfl, Nat.le_refl _, HC.out, HB.out⟩

/-! ### taken.free -/
def freeFrom (free : Int → Bool) (many fr : Int) : Nat → Nat → Int × Bool
  | 0, _ => (0, false)
  | d + 1, k => if free ((fr % many + k) % many) = true then ((fr % many + k) % many, true) else freeFrom free many fr d (k + 1)
set_option maxHeartbeats 4000000 in
set_option maxRecDepth 100000 in
theorem free_calls (h : Nat) (hh : h ≤ 10) (fr : Int) (h0 : 0 ≤ fr) (h1 : fr < 18446744073709551616) (B n : Nat) (cn : Lit → Nat) (w : World) (hC : CntMap 37 w B n cn) :
    Calls Tryz.prog 29 #[.map (some B), .int .i64 (h : Int), .int .u64 fr] w fun e w' => e = .returned (.tuple #[.int .u64 (freeFrom (fun a => cn (.int .u64 a) == 0) ((2 ^ h : Nat) : Int) fr (2 ^ h) 0).1, .bool (freeFrom (fun a => cn (.int .u64 a) == 0) ((2 ^ h : Nat) : Int) fr (2 ^ h) 0).2]) ∧ w' = w := by
  have hM : 1 ≤ 2 ^ h ∧ 2 ^ h ≤ 1024 := by
    have a1 : (1 : Nat) ≤ 2 ^ h := Nat.one_le_two_pow
    have a2 : (2 : Nat) ^ h ≤ 2 ^ 10 := Nat.pow_le_pow_right (by omega) hh
    have a3 : (2 : Nat) ^ 10 = 1024 := by decide
    omega
  have hz1 : IntKind.u64.wrap (1 * 2 ^ min ((h : Int).toNat) 64) = ((2 ^ h : Nat) : Int) := by
    have : min ((h : Int).toNat) 64 = h := by omega
    rw [this, Int.one_mul]
    have e : ((2 : Int) ^ h) = ((2 ^ h : Nat) : Int) := by simp
    rw [e]; simp only [IntKind.wrap, IntKind.bits, IntKind.signed]; simp; omega
  generalize 2 ^ h = M at hM hz1 ⊢
  have hz2 : IntKind.u64.wrap (2 ^ min ((h : Int).toNat) 64) = (M : Int) := by rw [Int.one_mul] at hz1; exact hz1
  have hz3 : IntKind.u64.wrap (1 * 2 ^ h) = (M : Int) := by have : min ((h : Int).toNat) 64 = h := by omega
                                                            rw [this] at hz1; exact hz1
  have hz4 : IntKind.u64.wrap (2 ^ h) = (M : Int) := by rw [Int.one_mul] at hz3; exact hz3
  have HC := Aside0.mk hC
  clear hC
  obtain ⟨R, hR⟩ : ∃ R, freeFrom (fun a => cn (.int .u64 a) == 0) (M : Int) fr M 0 = R := ⟨_, rfl⟩
  rw [hR]
  have HR := Aside0.mk hR
  clear hR
  have hM0 : ((M : Int) == 0) = false := by rw [beq_eq_false_iff_ne]; omega
  have hMn : ¬ (M : Int) = 0 := by omega
  have HF : Aside0 (0 ≤ fr % (M : Int) ∧ fr % (M : Int) < (M : Int)) := ⟨⟨Int.emod_nonneg _ hMn, Int.emod_lt_of_pos _ (by omega)⟩⟩
  have ht1 : Int.tmod fr (M : Int) = fr % (M : Int) := Int.tmod_eq_emod_of_nonneg h0
  generalize hF : fr % (M : Int) = F at HF ht1
  have HFE := Aside0.mk hF
  clear hF
  go_enter Tryz.func29, Tryz.ntmps29
  go_wp2
  go_loopw [14] (fun v14 wr => wr = w ∧ ∃ k : Nat, v14 = .int .u64 (k : Int) ∧ k ≤ M ∧ Aside0 (freeFrom (fun a => cn (.int .u64 a) == 0) (M : Int) fr (M - k) k = R)) (fun v14 _ => M - (intOf v14).toNat)
  case atStart => exact ⟨rfl, 0, rfl, Nat.zero_le _, HR⟩
  case round =>
    obtain ⟨rfl, k, rfl, hk, HK⟩ := hrel
    have hFb := HF.out
    by_cases hlt : k < M
    · have c0 : decide ((k : Int) < (M : Int)) = true := decide_eq_true (by omega)
      have ha : IntKind.u64.wrap (F + (k : Int)) = F + (k : Int) := by simp only [IntKind.wrap, IntKind.bits, IntKind.signed]; simp; omega
      have ht2 : Int.tmod (F + (k : Int)) (M : Int) = (F + (k : Int)) % (M : Int) := Int.tmod_eq_emod_of_nonneg (by omega)
      have hN : 0 ≤ (F + (k : Int)) % (M : Int) ∧ (F + (k : Int)) % (M : Int) < (M : Int) := ⟨Int.emod_nonneg _ hMn, Int.emod_lt_of_pos _ (by omega)⟩
      have hrec := HK.out
      rw [show M - k = (M - (k + 1)) + 1 by omega, freeFrom, HFE.out] at hrec
      generalize (F + (k : Int)) % (M : Int) = N0 at ht2 hN hrec
      have hkey : keyOf Tryz.prog 37 (.int .u64 N0) = some (.int .u64 N0) := Maps.keyOf_int_mk Tryz.underlying37 (by simp [Lit.wf, IntKind.min, IntKind.max, IntKind.signed, IntKind.bits]; omega)
      have hlook := HC.out.look lawU Tryz.underlying62 hkey
      have hw1 : IntKind.u64.wrap ((k : Int) + 1) = (k : Int) + 1 := by simp only [IntKind.wrap, IntKind.bits, IntKind.signed]; simp; omega
      clear hkey
      by_cases hc : cn (.int .u64 N0) = 0
      · rw [if_pos (by simp [hc])] at hrec
        rw [hc] at hlook
        subst hrec
        clear hz1 hz2 hz3 hz4
        go_wp2
        go_ret2
        exact ⟨rfl, rfl⟩
      · rw [if_neg (by simp [hc])] at hrec
        have hne : (((cn (.int .u64 N0) : Nat) : Int) == 0) = false := by rw [beq_eq_false_iff_ne]; omega
        generalize ((cn (.int .u64 N0) : Nat) : Int) = m at hlook hne
        clear hz1 hz2 hz3 hz4
        have HK2 := Aside0.mk hrec
        clear hrec HK
        go_wp2
        go_roundw
        case rel => exact ⟨trivial, k + 1, by go_num, by omega, HK2⟩
        case measure => simp [intOf]; omega
    · have c0 : decide ((k : Int) < (M : Int)) = false := decide_eq_false (by omega)
      have hnl : ¬ (k : Int) < (M : Int) := by omega
      have hrec := HK.out
      rw [show M - k = 0 by omega, freeFrom] at hrec
      subst hrec
      clear hz1 hz2 hz3 hz4
      go_wp2
      go_ret2
      exact ⟨rfl, rfl⟩

/-! ### slots.Free -/
def isFree (l : List S41) (a : Int) : Bool := !(l.any fun x => x.f3 == a)
theorem cnt_free (l : List S41) : (fun a => cntK keyU l (.int .u64 a) == 0) = isFree l := by
  funext a
  rw [Bool.eq_iff_iff]
  unfold cntK isFree keyU
  simp only [beq_iff_eq, List.countP_eq_zero, decide_eq_true_eq, Bool.not_eq_true', List.any_eq_false]
  constructor
  · intro h x hx e
    exact h x hx (by rw [e])
  · intro h x hx e
    injection e with _ e2
    exact h x hx e2
def slots_Free.f (l0 : List S41) (a1 a2 : Int) : Option (Int × Bool) :=
  if l0.length ≤ 100000 ∧ (0 ≤ a2 ∧ a2 < 18446744073709551616) ∧ (∀ x, x ∈ l0 → (Lit.int .u64 x.f3).wf = true) then
    (if 0 ≤ a1 ∧ a1 ≤ 10 then some (freeFrom (isFree l0) ((2 ^ a1.toNat : Nat) : Int) a2 (2 ^ a1.toNat) 0) else some (0, false))
  else none
end Go.Proofs.YtfijhbfdkcajjaaGreatDoor.Pr
