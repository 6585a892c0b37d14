/- Proved here: the pure statement of CoverGreatest. -/
import Derived.Test.YtaeaacdjiijooaaDoorCGr
import Derived.Test.YtaeaacdjiijooaaDoorTiles
namespace Go.Proofs.YtaeaacdjiijooaaDoor.Pr
set_option linter.unusedVariables false
open Go.RowKit Go.Proofs.YtaeaacdjiijooaaDoorW.PrintWords Go.Proofs.YtaeaacdjiijooaaDoorW.PrintLast Go.Proofs.YtaeaacdjiijooaaDoorW.PrintMore

/-- Each block that halving finds is within the block halved, and the one above it isn't in the range. -/
theorem H_great (n : Nat) : ∀ (p a b : Nat) (x : S33), x ∈ H n p a b → ∃ m q : Nat, x = ⟨(m : Int), (q : Int)⟩ ∧ m ≤ n ∧ (m = n → q = p) ∧ (m < n → ¬ (a ≤ q / 2 * 2 ^ (m + 1) ∧ (q / 2 + 1) * 2 ^ (m + 1) ≤ b)) := by
  induction n with
  | zero =>
    intro p a b x hx
    simp only [H] at hx
    split at hx
    · cases hx
    · obtain rfl := List.mem_singleton.1 hx
      exact ⟨0, p, rfl, Nat.le_refl _, fun _ => rfl, fun h => absurd h (Nat.lt_irrefl _)⟩
  | succ n ih =>
    intro p a b x hx
    simp only [H] at hx
    split at hx
    · cases hx
    · split at hx
      · obtain rfl := List.mem_singleton.1 hx
        exact ⟨n + 1, p, rfl, Nat.le_refl _, fun _ => rfl, fun h => absurd h (Nat.lt_irrefl _)⟩
      · rename_i hno
        have step : ∀ r, r / 2 = p → x ∈ H n r a b → ∃ m q : Nat, x = ⟨(m : Int), (q : Int)⟩ ∧ m ≤ n + 1 ∧ (m = n + 1 → q = p) ∧ (m < n + 1 → ¬ (a ≤ q / 2 * 2 ^ (m + 1) ∧ (q / 2 + 1) * 2 ^ (m + 1) ≤ b)) := by
          intro r hr hx
          obtain ⟨m, q, h1, h2, h3, h4⟩ := ih r a b x hx
          refine ⟨m, q, h1, by omega, by omega, fun _ => ?_⟩
          by_cases hm : m = n
          · rw [h3 hm, hm, hr]; exact hno
          · exact h4 (by omega)
        rcases List.mem_append.1 hx with hx | hx
        · exact step _ (by omega) hx
        · exact step _ (by omega) hx

/-- A row of blocks of the range, each as great as may be. -/
structure Row (h a b : Nat) (l : List S33) : Prop where
  tiles : Tiles a b l
  len : l.length ≤ 126
  great : ∀ x ∈ l, ∃ m q : Nat, x = ⟨(m : Int), (q : Int)⟩ ∧ m ≤ h ∧ (m < h → ¬ (a ≤ q / 2 * 2 ^ (m + 1) ∧ (q / 2 + 1) * 2 ^ (m + 1) ≤ b))

/-- What is known behind i blocks: where the next begins; of the block ahead of it, its level, place; whether the levels fall. -/
def Known (a : Nat) (l : List S33) (i at_ : Nat) (F : Bool) : Prop :=
  (i = 0 ∧ F = false ∧ at_ = a) ∨ ∃ m q : Nat, 0 < i ∧ i ≤ l.length ∧ rd_T33 l ((i : Int) - 1) = ⟨(m : Int), (q : Int)⟩ ∧ (q + 1) * 2 ^ m = at_ ∧ a ≤ q * 2 ^ m ∧ (F = true → a + 2 ^ m ≤ q * 2 ^ m)

theorem blk_eq {m q a c : Nat} (h : BlkAt ⟨(m : Int), (q : Int)⟩ a c) : m ≤ 63 ∧ q * 2 ^ m = a ∧ (q + 1) * 2 ^ m = c ∧ c ≤ 9223372036854775808 := by
  obtain ⟨n, p, e, h1, h2, h3, h4⟩ := h.ex
  injection e with e1 e2
  have : m = n := by omega
  have : q = p := by omega
  subst m; subst q; exact ⟨h1, h2, h3, h4⟩

/-- The span of the block above. -/
theorem above_span {m q c a : Nat} (h : BlkAt ⟨(m : Int), (q : Int)⟩ a c) : cover_Span.f (wrap64 ((m : Int) + 1)) (IntKind.u64.wrap (Int.tdiv (q : Int) 2)) = some (if m < 63 then (((q / 2 * 2 ^ (m + 1) : Nat) : Int), (((q / 2 + 1) * 2 ^ (m + 1) : Nat) : Int)) else (0, 0)) := by
  obtain ⟨h1, h2, h3, h4⟩ := blk_eq h
  have hp := Nat.two_pow_pos m
  have hq : q + 1 ≤ (q + 1) * 2 ^ m := Nat.le_mul_of_pos_right _ hp
  have w3 : wrap64 ((m : Int) + 1) = ((m + 1 : Nat) : Int) := by rw [IntWalk.wrap64_in _ (by omega)]; omega
  have w4 : IntKind.u64.wrap (Int.tdiv (q : Int) 2) = ((q / 2 : Nat) : Int) := by
    rw [show Int.tdiv (q : Int) 2 = ((q / 2 : Nat) : Int) from rfl, wrap_small (by omega)]
  rw [w3, w4]
  by_cases hm : m < 63
  · rw [if_pos hm]
    have hpw : 2 ^ (63 - m) * 2 ^ m = 9223372036854775808 := by rw [← Nat.pow_add, show 63 - m + m = 63 by omega]
    have hpe : 2 ^ (63 - m) = 2 * 2 ^ (62 - m) := by rw [show 63 - m = (62 - m) + 1 by omega, Nat.pow_succ, Nat.mul_comm]
    have hle : q + 1 ≤ 2 ^ (63 - m) := by
      apply Nat.le_of_not_lt; intro hlt
      have := Nat.mul_lt_mul_of_pos_right hlt hp
      omega
    have h62 : q / 2 + 1 ≤ 2 ^ (62 - m) := by omega
    have hb : (q / 2 + 1) * 2 ^ (m + 1) ≤ 9223372036854775808 := by
      have := Nat.mul_le_mul_right (2 ^ (m + 1)) h62
      rw [← Nat.pow_add 2 (62 - m), show 62 - m + (m + 1) = 63 by omega] at this
      exact this
    have hb2 : BlkAt ⟨((m + 1 : Nat) : Int), ((q / 2 : Nat) : Int)⟩ (q / 2 * 2 ^ (m + 1)) ((q / 2 + 1) * 2 ^ (m + 1)) := ⟨m + 1, q / 2, rfl, by omega, rfl, rfl, hb⟩
    exact span_is hb2
  · rw [if_neg hm]
    unfold cover_Span.f
    rw [high_is]
    simp only [Option.bind_some]
    rw [if_neg (by simp; omega)]

/-- No block is greater than the one ahead of it, once the levels fall. -/
theorem no_rise {a b h m q n p : Nat} (hq : (q + 1) * 2 ^ m = p * 2 ^ n) (hF : a + 2 ^ m ≤ q * 2 ^ m) (hb : p * 2 ^ n ≤ b) (hn : n ≤ h) (hg : m < h → ¬ (a ≤ q / 2 * 2 ^ (m + 1) ∧ (q / 2 + 1) * 2 ^ (m + 1) ≤ b)) : n ≤ m := by
  apply Nat.le_of_not_lt; intro hlt
  have hm := Nat.two_pow_pos m
  obtain ⟨d, rfl⟩ : ∃ d, n = m + 1 + d := ⟨n - (m + 1), by omega⟩
  have e1 : p * 2 ^ (m + 1 + d) = p * 2 ^ d * 2 * 2 ^ m := by rw [Nat.pow_add, Nat.pow_succ]; simp [Nat.mul_comm, Nat.mul_left_comm, Nat.mul_assoc]
  have e2 : q + 1 = p * 2 ^ d * 2 := Nat.eq_of_mul_eq_mul_right hm (by rw [hq, e1])
  have e3 : q / 2 * 2 = q - 1 := by omega
  have e4 : (q / 2 + 1) * 2 = q + 1 := by omega
  have f1 : q / 2 * 2 ^ (m + 1) = (q - 1) * 2 ^ m := by rw [Nat.pow_succ, Nat.mul_comm (2 ^ m) 2, ← Nat.mul_assoc, e3]
  have f2 : (q / 2 + 1) * 2 ^ (m + 1) = (q + 1) * 2 ^ m := by rw [Nat.pow_succ, Nat.mul_comm (2 ^ m) 2, ← Nat.mul_assoc, e4]
  refine hg (by omega) ⟨?_, ?_⟩
  · rw [f1]
    have : (q - 1) * 2 ^ m + 2 ^ m = q * 2 ^ m := by rw [← Nat.succ_mul]; congr 1; omega
    omega
  · rw [f2, hq]; exact hb

theorem sub1 {i : Nat} (h : 0 < i) : ((i : Int) - 1) = ((i - 1 : Nat) : Int) := by omega
theorem wsub1 {i : Nat} (h : 0 < i) (h2 : i ≤ 1000) : wrap64 ((i : Int) - 1) = ((i - 1 : Nat) : Int) := by rw [IntWalk.wrap64_in _ (by omega)]; omega
set_option maxHeartbeats 8000000 in
theorem great_walk (h a b : Nat) (hh : h ≤ 63) (hb : b ≤ 2 ^ h) (l : List S33) (hR : Row h a b l) : ∀ (d i at_ : Nat) (F : Bool), l.length - i = d → i ≤ l.length → Tiles at_ b (l.drop i) → a ≤ at_ → Known a l i at_ F →
    ∃ k, CGr.l0 k h a b l F (i : Int) = some true := by
  have hlen := hR.len
  intro d
  induction d with
  | zero =>
    intro i at_ F h1 h2 ht ha hK
    exact ⟨1, by rw [CGr.l0, if_neg (by omega)]⟩
  | succ d ih =>
    intro i at_ F h1 h2 ht ha hK
    have hi : i < l.length := by omega
    obtain ⟨c, hx, ht'⟩ := ht.drop_cons hi
    have hmem : rd_T33 l (i : Int) ∈ l := by rw [rd_at l i hi]; exact List.getElem_mem hi
    obtain ⟨n, p, ex, hn, hg0⟩ := hR.great _ hmem
    have hg := Aside0.mk hg0
    clear hg0
    have er : ∀ (P : S33 → Prop), P (rd_T33 l (i : Int)) → P ⟨(n : Int), (p : Int)⟩ := fun P hp => ex ▸ hp
    rw [ex] at hx
    obtain ⟨b1, b2, b3, b4⟩ := blk_eq hx
    have hlt := hx.lt
    have hle := ht'.le
    have hp2 := Nat.two_pow_pos n
    have p0 : (0 : Int) ≤ (i : Int) := Int.natCast_nonneg i
    have p1 : (i : Int) < (l.length : Int) := Int.ofNat_lt.2 hi
    have hil0 : i ≤ 1000 := Nat.le_trans h2 (Nat.le_trans hlen (by decide))
    have a1 : l.length - (i + 1) = d := by rw [Nat.sub_add_eq, h1]; rfl
    clear h1
    have w : wrap64 ((i : Int) + 1) = ((i + 1 : Nat) : Int) := by rw [IntWalk.wrap64_in _ (by omega)]; omega
    have hsp := above_span hx
    have cm : c = at_ + 2 ^ n := by rw [← b3, ← b2, Nat.succ_mul]
    have next : ∀ F', (F' = true → a + 2 ^ n ≤ p * 2 ^ n) → ∃ k, CGr.l0 k h a b l F' (wrap64 ((i : Int) + 1)) = some true := fun F' hF' => by
      rw [w]
      refine ih (i + 1) c F' a1 hi ht' (Nat.le_trans ha (Nat.le_of_lt hlt)) (.inr ⟨n, p, Nat.succ_pos i, hi, ?_, b3, (by rw [b2]; exact ha), hF'⟩)
      rw [show ((i + 1 : Nat) : Int) - 1 = (i : Int) from Int.add_sub_cancel (i : Int) 1]; exact ex
    -- the end of a round
    have r4 : ∀ t : Bool, (t = true → 0 < i → a + 2 ^ n ≤ p * 2 ^ n) → (t = true → 0 < i) → (t = false → F = true → 0 < i → a + 2 ^ n ≤ p * 2 ^ n) → ((F = true ∨ t = true) → 0 < i → ∀ m q : Nat, rd_T33 l ((i : Int) - 1) = ⟨(m : Int), (q : Int)⟩ → n ≤ m) →
        ∃ k, CGr.j4 k h a b l F (i : Int) t = some true := by
      intro t ht1_ ht2_ ht3_ ht4_
      have ht1 := Aside0.mk ht1_
      have ht2 := Aside0.mk ht2_
      have ht3 := Aside0.mk ht3_
      have ht4 := Aside0.mk ht4_
      clear ht1_ ht2_ ht3_ ht4_
      by_cases hi0 : 0 < i
      · have w2' : ((i : Int) - 1) = ((i - 1 : Nat) : Int) := sub1 hi0
        have w2 : wrap64 ((i : Int) - 1) = ((i - 1 : Nat) : Int) := wsub1 hi0 hil0
        have pi0 : (i : Int) > 0 := Int.ofNat_lt.2 hi0
        have q0 : (0 : Int) ≤ ((i - 1 : Nat) : Int) := Int.natCast_nonneg _
        have q1 : ((i - 1 : Nat) : Int) < (l.length : Int) := Int.ofNat_lt.2 (Nat.lt_of_le_of_lt (Nat.sub_le i 1) hi)
        have hK' : ∃ m q : Nat, rd_T33 l ((i - 1 : Nat) : Int) = ⟨(m : Int), (q : Int)⟩ := by
          rcases hK with ⟨h0, _, _⟩ | ⟨m, q, _, _, e, _⟩
          · exact absurd hi0 (by rw [h0]; exact Nat.lt_irrefl 0)
          · exact ⟨m, q, by rw [← w2']; exact e⟩
        obtain ⟨m, q, em⟩ := hK'
        replace ht4 := ht4.out; rw [w2'] at ht4; replace ht4 := Aside0.mk ht4
        cases t with
        | true =>
          obtain ⟨k, hk⟩ := next true (fun _ => ht1.out rfl hi0)
          refine ⟨k + 1, ?_⟩
          have hnm := ht4.out (.inr rfl) hi0 m q em
          rw [CGr.j4, if_pos (Eq.refl true), if_pos pi0, if_pos p0, if_pos p1, w2, if_pos q0, if_pos q1, ex, em]
          simp only []
          rw [if_neg (Int.not_lt.2 (Int.ofNat_le.2 hnm))]; exact hk
        | false =>
          cases hF : F with
          | true =>
            obtain ⟨k, hk⟩ := next true (fun _ => ht3.out rfl hF hi0)
            refine ⟨k + 1, ?_⟩
            have hnm := ht4.out (.inl hF) hi0 m q em
            rw [CGr.j4, if_neg (by decide), if_pos pi0, if_pos (Eq.refl true), if_pos p0, if_pos p1, w2, if_pos q0, if_pos q1, ex, em]
            simp only []
            rw [if_neg (Int.not_lt.2 (Int.ofNat_le.2 hnm))]; exact hk
          | false =>
            obtain ⟨k, hk⟩ := next false (fun h => by cases h)
            exact ⟨k + 1, by rw [CGr.j4, if_neg (by decide), if_pos pi0, if_neg (by decide)]; exact hk⟩
      · cases t with
        | true => exact absurd (ht2.out rfl) hi0
        | false =>
          have hF : F = false := by
            rcases hK with ⟨_, e, _⟩ | ⟨_, _, e, _⟩
            · exact e
            · exact absurd e hi0
          obtain ⟨k, hk⟩ := next F (fun h => by rw [hF] at h; cases h)
          exact ⟨k + 1, by rw [CGr.j4, if_neg (by decide), if_neg (show ¬ ((i : Int) > 0) from fun h => hi0 (Int.ofNat_lt.1 h))]; exact hk⟩
    have r3 : ∃ k, CGr.j3 k h a b l F (i : Int) false = some true := by
      rcases hK with ⟨h0, hF, _⟩ | ⟨m, q, hi0, hil, em, e3, ea, hFF_⟩
      · obtain ⟨k, hk⟩ := r4 false (by simp) (by simp) (fun _ h => by rw [hF] at h; cases h) (fun _ hi => absurd hi (by rw [h0]; exact Nat.lt_irrefl 0))
        exact ⟨k + 1, by rw [CGr.j3, if_neg (by decide), if_neg (by rw [h0]; decide)]; exact hk⟩
      · have hFF := Aside0.mk hFF_
        clear hFF_
        have w2' : ((i : Int) - 1) = ((i - 1 : Nat) : Int) := sub1 hi0
        have w2 : wrap64 ((i : Int) - 1) = ((i - 1 : Nat) : Int) := wsub1 hi0 hil0
        have pi0 : (i : Int) > 0 := Int.ofNat_lt.2 hi0
        have q0 : (0 : Int) ≤ ((i - 1 : Nat) : Int) := Int.natCast_nonneg _
        have q1 : ((i - 1 : Nat) : Int) < (l.length : Int) := Int.ofNat_lt.2 (Nat.lt_of_le_of_lt (Nat.sub_le i 1) hi)
        have em' : rd_T33 l ((i - 1 : Nat) : Int) = ⟨(m : Int), (q : Int)⟩ := by rw [← w2']; exact em
        have mm := Nat.two_pow_pos m
        have eq1 : (q + 1) * 2 ^ m = p * 2 ^ n := by rw [e3, b2]
        have eq2 : q * 2 ^ m + 2 ^ m = at_ := by rw [← e3, Nat.succ_mul]
        have hmem2 : rd_T33 l ((i - 1 : Nat) : Int) ∈ l := by rw [rd_at l (i - 1) (Nat.lt_of_le_of_lt (Nat.sub_le i 1) hi)]; exact List.getElem_mem _
        obtain ⟨m2, q2, e2, hm2, hg20⟩ := hR.great _ hmem2
        have hg2 := Aside0.mk hg20
        clear hg20
        rw [em'] at e2
        injection e2 with f1 f2
        have : m2 = m := (Int.ofNat.inj f1).symm
        have : q2 = q := (Int.ofNat.inj f2).symm
        subst m2; subst q2
        have uniq : ∀ m' q' : Nat, rd_T33 l ((i : Int) - 1) = ⟨(m' : Int), (q' : Int)⟩ → m' = m := fun m' q' e => by
          rw [em] at e; injection e with g1 g2; exact (Int.ofNat.inj g1).symm
        have hcb : p * 2 ^ n ≤ b := by rw [b2]; exact Nat.le_trans (Nat.le_of_lt hlt) hle
        have fall : Aside0 (F = true → n ≤ m) := ⟨fun hF => no_rise (h := h) eq1 (hFF.out hF) hcb hn hg2.out⟩
        have keepF : Aside0 (F = true → a + 2 ^ n ≤ p * 2 ^ n) := ⟨fun hF => by
          have f1 := Nat.pow_le_pow_right (n := 2) (by decide) (fall.out hF)
          have f2 := hFF.out hF
          rw [b2, ← eq2]
          exact Nat.le_trans (Nat.add_le_add ea f1) (Nat.le_refl _)⟩
        by_cases c1 : n < m
        · have hpw := Nat.pow_le_pow_right (n := 2) (by decide) (Nat.le_of_lt c1)
          obtain ⟨k, hk⟩ := r4 true (fun _ _ => by rw [b2, ← eq2]; exact Nat.add_le_add ea hpw) (fun _ => hi0) (by simp) (fun _ _ m' q' e => by rw [uniq m' q' e]; exact Nat.le_of_lt c1)
          exact ⟨k + 1, by rw [CGr.j3, if_neg (by decide), if_pos pi0, if_pos p0, if_pos p1, w2, if_pos q0, if_pos q1, ex, em']; simp only []; rw [if_pos (Int.ofNat_lt.2 c1)]; exact hk⟩
        · by_cases c2 : n = m
          · have hq2 : p = q + 1 := by
              subst c2
              exact (Nat.eq_of_mul_eq_mul_right mm eq1).symm
            obtain ⟨k, hk⟩ := r4 ((Int.tmod (p : Int) 2) == 0) (fun _ _ => by rw [b2, ← eq2, c2]; exact Nat.add_le_add ea (Nat.le_refl _)) (fun _ => hi0) (fun _ hF _ => keepF.out hF) (fun _ _ m' q' e => by rw [uniq m' q' e]; exact Nat.le_of_eq c2)
            exact ⟨k + 1, by rw [CGr.j3, if_neg (by decide), if_pos pi0, if_pos p0, if_pos p1, w2, if_pos q0, if_pos q1, ex, em']; simp only []; rw [if_neg (fun h => c1 (Int.ofNat_lt.1 h)), if_pos (show (n : Int) = (m : Int) by rw [c2])]; exact hk⟩
          · obtain ⟨k, hk⟩ := r4 false (by simp) (by simp) (fun _ hF _ => keepF.out hF) (fun hF _ m' q' e => by rw [uniq m' q' e]; exact hF.elim fall.out (fun h => by cases h))
            exact ⟨k + 1, by rw [CGr.j3, if_neg (by decide), if_pos pi0, if_pos p0, if_pos p1, w2, if_pos q0, if_pos q1, ex, em']; simp only []; rw [if_neg (fun h => c1 (Int.ofNat_lt.1 h)), if_neg (show ¬ ((n : Int) = (m : Int)) from fun h => c2 (Int.ofNat.inj h))]; exact hk⟩
    have r2 : ∃ k, CGr.j2 k h a b l F (i : Int) false = some true := by
      obtain ⟨k, hk⟩ := r3
      refine ⟨k + 1, ?_⟩
      rw [CGr.j2, if_neg (by decide), if_pos p0, if_pos p1, ex]
      simp only []
      rw [hsp]
      simp only [Option.bind_some]
      by_cases c1 : (n : Int) < (h : Int)
      · rw [if_pos c1, if_pos (show n < 63 from Nat.lt_of_lt_of_le (Int.ofNat_lt.1 c1) hh)]
        simp only []
        have hno := hg.out (Int.ofNat_lt.1 c1)
        by_cases c2 : (((p / 2 * 2 ^ (n + 1) : Nat) : Int)) ≥ (a : Int)
        · rw [if_pos c2, decide_eq_false (show ¬ ((((p / 2 + 1) * 2 ^ (n + 1) : Nat) : Int) ≤ (b : Int)) from fun h => hno ⟨Int.ofNat_le.1 c2, Int.ofNat_le.1 h⟩)]; exact hk
        · rw [if_neg c2]; exact hk
      · rw [if_neg c1]; exact hk
    obtain ⟨k, hk⟩ := r2
    refine ⟨k + 1, ?_⟩
    rw [CGr.l0, if_pos p1, if_pos p0, ex]
    simp only []
    rw [if_neg (Int.not_lt.2 (Int.natCast_nonneg n)), decide_eq_false (show ¬ ((n : Int) > (h : Int)) from Int.not_lt.2 (Int.ofNat_le.2 hn))]; exact hk

theorem CoverGreatest : CGr.Pure := by
  intro a0 a1 a2 _ h1 h2
  obtain ⟨b1, b1'⟩ := u64_bd h1
  obtain ⟨b2, b2'⟩ := u64_bd h2
  obtain ⟨a, rfl⟩ : ∃ n : Nat, a1 = (n : Int) := ⟨a1.toNat, by omega⟩
  obtain ⟨b, rfl⟩ : ∃ n : Nat, a2 = (n : Int) := ⟨a2.toNat, by omega⟩
  by_cases hh : 0 ≤ a0 ∧ a0 ≤ 63
  · obtain ⟨h, rfl⟩ : ∃ n : Nat, a0 = (n : Int) := ⟨a0.toNat, by omega⟩
    have hh' : h ≤ 63 := by omega
    by_cases hm : a < b ∧ b ≤ 2 ^ h
    · have hp := pow_nat h hh'
      have hT : Tiles a b (H h 0 a b) := H_tiles hh' (by omega) hm.2
      have hL := H_len h 0 a b
      have hR : Row h a b (H h 0 a b) := ⟨hT, H_len1000 hh', fun x hx => by
        obtain ⟨m, q, h1, h2, _, h4⟩ := H_great h 0 a b x hx
        exact ⟨m, q, h1, h2, h4⟩⟩
      obtain ⟨k, hk⟩ := great_walk h a b hh' hm.2 _ hR _ 0 a false rfl (Nat.zero_le _) (by simpa using hT) (Nat.le_refl _) (.inl ⟨rfl, rfl, rfl⟩)
      have mono : ∀ j, CGr.l0 (k + j) h a b (H h 0 a b) false 0 = some true := fun j => by
        induction j with
        | zero => exact hk
        | succ j ih => exact (CGr.mono_l (k + j)).2.1 _ _ _ _ _ _ _ ih
      refine ⟨k + 100001 + 1, ?_⟩
      unfold CGr.f
      rw [awake_is _ (by omega), may_is h a b hh', Of_is _ h a b hh' (by omega)]
      simp only [Option.bind_some]
      rw [if_pos trivial, if_pos (by simpa using hm), if_pos hm]
      simp only []
      have hne : 1 ≤ (H h 0 a b).length := by
        cases hc : H h 0 a b with
        | nil => rw [hc] at hT; have : a = b := hT; omega
        | cons _ _ => simp
      have w : wrap64 (2 * (h : Int)) = ((2 * h : Nat) : Int) := by rw [IntWalk.wrap64_in _ (by omega)]; omega
      rw [if_neg (by omega), w]
      have go : CGr.j0 (k + 100001 + 1) h a b (H h 0 a b) false = some true := by rw [CGr.j0, if_neg (by simp)]; exact mono _
      by_cases c : ((H h 0 a b).length : Int) > ((2 * h : Nat) : Int)
      · rw [if_pos c, decide_eq_false (by omega)]; exact go
      · rw [if_neg c]; exact go
    · refine ⟨100001, ?_⟩
      unfold CGr.f
      rw [awake_is _ (by omega), may_is h a b hh']
      simp only [Option.bind_some]
      rw [if_pos trivial, if_neg (by simpa using hm)]
  · refine ⟨100001, ?_⟩
    unfold CGr.f
    rw [awake_is _ (by omega), may_no _ _ _ hh]
    rfl
end Go.Proofs.YtaeaacdjiijooaaDoor.Pr
