/- Proved here: the pure statement of CoverAll. -/
import Derived.Test.YtaeaacdjiijooaaDoorPrx19
import Derived.Test.YtaeaacdjiijooaaDoorTiles
namespace Go.Proofs.YtaeaacdjiijooaaDoor.Pr
open Go.RowKit Go.Proofs.YtaeaacdjiijooaaDoorW.PrintWords Go.Proofs.YtaeaacdjiijooaaDoorW.PrintLast Go.Proofs.YtaeaacdjiijooaaDoorW.PrintMore

def hasB (q : Nat) (x : S33) : Bool := cover_Has.f x.f0 x.f1 (q : Int) == some true
theorem hasB_blk {x : S33} {a b : Nat} (h : BlkAt x a b) (q : Nat) : hasB q x = decide (a ≤ q ∧ q < b) ∧ cover_Has.f x.f0 x.f1 (q : Int) = some (hasB q x) := by
  unfold hasB; rw [has_is h]; by_cases hq : a ≤ q ∧ q < b <;> simp [hq]
theorem Tiles.count (q : Nat) : ∀ {l : List S33} {a b : Nat}, Tiles a b l → l.countP (hasB q) = if a ≤ q ∧ q < b then 1 else 0
  | [], a, b, h => by cases h; rw [if_neg (by omega)]; rfl
  | x :: l, a, b, ⟨c, h1, h2⟩ => by
    have hlt := h1.lt
    have hle := h2.le
    rw [List.countP_cons, Tiles.count q h2, (hasB_blk h1 q).1]
    simp only [decide_eq_true_eq]
    split <;> split <;> split <;> omega
theorem Tiles.all (q : Nat) : ∀ {l : List S33} {a b : Nat}, Tiles a b l → ∀ x ∈ l, cover_Has.f x.f0 x.f1 (q : Int) = some (hasB q x)
  | x :: l, a, b, ⟨c, h1, h2⟩, y, hy => by
    rcases List.mem_cons.1 hy with rfl | hy
    · exact (hasB_blk h1 q).2
    · exact Tiles.all q h2 y hy

theorem count1 (h a b q : Nat) (l m : List S33) (hl : l.length ≤ 1000000) (ha : ∀ x ∈ l, cover_Has.f x.f0 x.f1 (q : Int) = some (hasB q x)) (x22 : Int) : ∀ (d k i x21 : Nat), l.length - i = d → i ≤ l.length → x21 + d ≤ 1000000 →
    paymasterlaw20_CoverAll.l1 (k + d + 1) h a b q l m (x21 : Int) x22 (i : Int) = paymasterlaw20_CoverAll.l2 k h a b q m ((x21 + (l.drop i).countP (hasB q) : Nat) : Int) x22 0 := by
  intro d
  induction d with
  | zero =>
    intro k i x h1 h2 hx
    rw [show k + 0 + 1 = k + 1 from rfl]
    conv => lhs; unfold paymasterlaw20_CoverAll.l1
    rw [if_neg (by omega), List.drop_of_length_le (by omega)]; rfl
  | succ d ih =>
    intro k i x h1 h2 hx
    have hi : i < l.length := by omega
    rw [show k + (d + 1) + 1 = (k + d + 1) + 1 by omega]
    conv => lhs; unfold paymasterlaw20_CoverAll.l1
    rw [if_pos (by omega), if_pos (by omega), rd_at l i hi, ha _ (List.getElem_mem hi)]
    simp only [Option.bind_some]
    have w : wrap64 ((i : Int) + 1) = ((i + 1 : Nat) : Int) := by rw [IntWalk.wrap64_in _ (by omega)]; omega
    have w2 : wrap64 ((x : Int) + 1) = ((x + 1 : Nat) : Int) := by rw [IntWalk.wrap64_in _ (by omega)]; omega
    rw [w, w2, List.drop_eq_getElem_cons hi, List.countP_cons]
    by_cases hq : hasB q l[i] = true
    · rw [if_pos hq, if_pos hq, ih k (i + 1) (x + 1) (by omega) (by omega) (by omega)]; congr 2; omega
    · rw [if_neg hq, if_neg hq, ih k (i + 1) x (by omega) (by omega) (by omega)]; rfl
theorem count2 (h a b q : Nat) (m : List S33) (hl : m.length ≤ 1000000) (ha : ∀ x ∈ m, cover_Has.f x.f0 x.f1 (q : Int) = some (hasB q x)) (x21 : Int) : ∀ (d k i x22 : Nat), m.length - i = d → i ≤ m.length → x22 + d ≤ 1000000 →
    paymasterlaw20_CoverAll.l2 (k + d + 1) h a b q m x21 (x22 : Int) (i : Int) = paymasterlaw20_CoverAll.l2 (k + 1) h a b q m x21 ((x22 + (m.drop i).countP (hasB q) : Nat) : Int) (m.length : Int) := by
  intro d
  induction d with
  | zero =>
    intro k i x h1 h2 hx
    have : i = m.length := by omega
    subst this
    rw [List.drop_of_length_le (by omega)]; rfl
  | succ d ih =>
    intro k i x h1 h2 hx
    have hi : i < m.length := by omega
    rw [show k + (d + 1) + 1 = (k + d + 1) + 1 by omega]
    conv => lhs; unfold paymasterlaw20_CoverAll.l2
    rw [if_pos (by omega), if_pos (by omega), rd_at m i hi, ha _ (List.getElem_mem hi)]
    simp only [Option.bind_some]
    have w : wrap64 ((i : Int) + 1) = ((i + 1 : Nat) : Int) := by rw [IntWalk.wrap64_in _ (by omega)]; omega
    have w2 : wrap64 ((x : Int) + 1) = ((x + 1 : Nat) : Int) := by rw [IntWalk.wrap64_in _ (by omega)]; omega
    rw [w, w2, List.drop_eq_getElem_cons hi, List.countP_cons]
    by_cases hq : hasB q m[i] = true
    · rw [if_pos hq, if_pos hq, ih k (i + 1) (x + 1) (by omega) (by omega) (by omega)]; congr 2; omega
    · rw [if_neg hq, if_neg hq, ih k (i + 1) x (by omega) (by omega) (by omega)]; rfl

/-- The loop over what is ahead of a. -/
theorem ahead (h a b q : Nat) (l m1 m2 : List S33) (hm : (m1 ++ m2).length ≤ 1000000) : ∀ (d k i at_ : Nat), m1.length - i = d → i ≤ m1.length → Tiles at_ a (m1.drop i) →
    paymasterlaw20_CoverAll.l0 (k + 2 * d + 2) h a b q l (m1 ++ m2) (i : Int) (at_ : Int) = paymasterlaw20_CoverAll.j2 (k + 1) h a b q l (m1 ++ m2) (m1.length : Int) (a : Int) false := by
  intro d
  induction d with
  | zero =>
    intro k i f h1 h2 ht
    have : i = m1.length := by omega
    subst this
    rw [List.drop_of_length_le (by omega)] at ht
    cases ht
    rw [show k + 2 * 0 + 2 = (k + 1) + 1 by omega]
    conv => lhs; unfold paymasterlaw20_CoverAll.l0
    rw [decide_eq_false (by omega)]
    split <;> rfl
  | succ d ih =>
    intro k i f h1 h2 ht
    obtain ⟨c, hb, ht'⟩ := ht.drop_cons (by omega)
    have hlt := hb.lt
    have hle := ht'.le
    have hi : i < (m1 ++ m2).length := by rw [List.length_append]; omega
    have er : rd_T33 (m1 ++ m2) (i : Int) = rd_T33 m1 (i : Int) := by
      rw [rd_at _ i hi, rd_at _ i (by omega), List.getElem_append_left]
    rw [show k + 2 * (d + 1) + 2 = (k + 2 * d + 2 + 1) + 1 by omega]
    conv => lhs; unfold paymasterlaw20_CoverAll.l0
    rw [if_pos (by omega), decide_eq_true (by omega)]
    conv => lhs; unfold paymasterlaw20_CoverAll.j2
    rw [if_pos rfl, if_pos (by omega), if_pos (by omega), er, span_is hb]
    simp only [Option.bind_some]
    rw [if_pos trivial, if_neg (by omega)]
    have w : wrap64 ((i : Int) + 1) = ((i + 1 : Nat) : Int) := by rw [IntWalk.wrap64_in _ (by omega)]; omega
    rw [w]
    exact ih k (i + 1) c (by omega) (by omega) ht'

theorem CoverAll : paymasterlaw20_CoverAll.Pure := by
  intro a0 a1 a2 a3 _ h1 h2 h3
  obtain ⟨b1, b1'⟩ := u64_bd h1
  obtain ⟨b2, b2'⟩ := u64_bd h2
  obtain ⟨b3, b3'⟩ := u64_bd h3
  obtain ⟨a, rfl⟩ : ∃ n : Nat, a1 = (n : Int) := ⟨a1.toNat, by omega⟩
  obtain ⟨b, rfl⟩ : ∃ n : Nat, a2 = (n : Int) := ⟨a2.toNat, by omega⟩
  obtain ⟨q, rfl⟩ : ∃ n : Nat, a3 = (n : Int) := ⟨a3.toNat, by omega⟩
  obtain ⟨K, hK⟩ : ∃ K : Nat, K = 200000 := ⟨_, rfl⟩
  refine ⟨K + 1, ?_⟩
  unfold paymasterlaw20_CoverAll.f
  rw [awake_is _ (by omega)]
  simp only [Option.bind_some]
  rw [if_pos trivial]
  by_cases hh : 0 ≤ a0 ∧ a0 ≤ 63
  · obtain ⟨h, rfl⟩ : ∃ n : Nat, a0 = (n : Int) := ⟨a0.toNat, by omega⟩
    have hh' : h ≤ 63 := by omega
    rw [Of_is _ h a b hh' (by omega), Out_is _ h a b hh' (by omega), may_is h a b hh']
    simp only [Option.bind_some]
    by_cases hm : a < b ∧ b ≤ 2 ^ h
    · have hp := pow_nat h hh'
      have t1 : Tiles a b (H h 0 a b) := H_tiles hh' (by omega) hm.2
      have t2 : Tiles 0 a (H h 0 0 a) := H_tiles hh' (by omega) (by omega)
      have t3 : Tiles b (2 ^ h) (H h 0 b (2 ^ h)) := H_tiles hh' hm.2 (Nat.le_refl _)
      have l1 : (H h 0 a b).length ≤ 126 := H_len1000 hh'
      have l2 : (H h 0 0 a).length ≤ 126 := H_len1000 hh'
      have l3 : (H h 0 b (2 ^ h)).length ≤ 126 := H_len1000 hh'
      rw [if_pos hm, if_pos hm, if_pos (by simpa using hm)]
      simp only []
      rw [whole_is t1 (by omega) (by omega)]
      simp only [Option.bind_some]
      rw [if_pos trivial, if_pos trivial, if_pos trivial]
      obtain ⟨L, hL⟩ : ∃ L, H h 0 a b = L := ⟨_, rfl⟩
      obtain ⟨M1, hM1⟩ : ∃ L, H h 0 0 a = L := ⟨_, rfl⟩
      obtain ⟨M2, hM2⟩ : ∃ L, H h 0 b (2 ^ h) = L := ⟨_, rfl⟩
      rw [hL] at t1 l1 ⊢; rw [hM1] at t2 l2 ⊢; rw [hM2] at t3 l3 ⊢
      have e0 : ((b : Int) != (b : Int)) = false := by simp
      rw [e0]
      rw [paymasterlaw20_CoverAll.j0]
      rw [if_neg (by simp)]
      have hlen : (M1 ++ M2).length ≤ 252 := by rw [List.length_append]; omega
      obtain ⟨k, hk⟩ : ∃ k, K = k + 2 * M1.length + 2 := ⟨199998 - 2 * M1.length, by omega⟩
      have hkb : 199000 ≤ k := by omega
      rw [hk]
      have e1 := ahead h a b q L M1 M2 (by omega) M1.length k 0 0 (by omega) (by omega) (by simpa using t2)
      rw [show paymasterlaw20_CoverAll.l0 (k + 2 * M1.length + 2) (h : Int) (a : Int) (b : Int) (q : Int) L (M1 ++ M2) 0 0 = _ from e1]
      rw [paymasterlaw20_CoverAll.j2]
      rw [if_neg (by simp), if_pos (by omega), if_pos (by rw [List.length_append]; omega), Int.toNat_natCast, List.drop_left, whole_is t3 (by omega) (by omega)]
      simp only [Option.bind_some]
      rw [if_pos trivial, if_pos trivial, ltwo_is h hh']
      simp only [Option.bind_some]
      have e2 : (((2 ^ h : Nat) : Int) != ((2 ^ h : Nat) : Int)) = false := by simp
      rw [e2]
      obtain ⟨k, rfl⟩ : ∃ m, k = m + 1 := ⟨k - 1, by omega⟩
      rw [paymasterlaw20_CoverAll.j3]
      rw [if_neg (by simp)]
      obtain ⟨k', hk'⟩ : ∃ k', k = k' + L.length + 1 := ⟨k - L.length - 1, by omega⟩
      rw [hk']
      have tm : ∀ x ∈ M1 ++ M2, cover_Has.f x.f0 x.f1 (q : Int) = some (hasB q x) := fun x hx => (List.mem_append.1 hx).elim (t2.all q x) (t3.all q x)
      have e3 := count1 h a b q L (M1 ++ M2) (by omega) (t1.all q) 0 L.length k' 0 0 (by omega) (by omega) (by omega)
      rw [show paymasterlaw20_CoverAll.l1 (k' + L.length + 1) (h : Int) (a : Int) (b : Int) (q : Int) L (M1 ++ M2) 0 0 0 = _ from e3]
      obtain ⟨k2, hk2⟩ : ∃ k2, k' = k2 + (M1 ++ M2).length + 1 := ⟨k' - (M1 ++ M2).length - 1, by omega⟩
      rw [hk2]
      have e4 := count2 h a b q (M1 ++ M2) (by omega) tm ((0 + (L.drop 0).countP (hasB q) : Nat) : Int) (M1 ++ M2).length k2 0 0 (by omega) (by omega) (by omega)
      rw [show paymasterlaw20_CoverAll.l2 (k2 + (M1 ++ M2).length + 1) (h : Int) (a : Int) (b : Int) (q : Int) (M1 ++ M2) ((0 + (L.drop 0).countP (hasB q) : Nat) : Int) 0 0 = _ from e4]
      rw [List.drop_zero, List.drop_zero, List.countP_append, t1.count q, t2.count q, t3.count q]
      rw [paymasterlaw20_CoverAll.l2]
      rw [if_neg (by omega), ltwo_is h hh']
      simp only [Option.bind_some]
      obtain ⟨u, hu⟩ : ∃ u, (0 + if a ≤ q ∧ q < b then 1 else 0 : Nat) = u := ⟨_, rfl⟩
      obtain ⟨v, hv⟩ : ∃ v, (0 + ((if 0 ≤ q ∧ q < a then 1 else 0) + (if b ≤ q ∧ q < 2 ^ h then 1 else 0)) : Nat) = v := ⟨_, rfl⟩
      rw [hu, hv]
      by_cases q1 : a ≤ q
      · by_cases q2 : q < b
        · replace hu : u = 1 := by rw [← hu, if_pos ⟨q1, q2⟩]
          replace hv : v = 0 := by rw [← hv, if_neg (show ¬ (0 ≤ q ∧ q < a) by omega), if_neg (show ¬ (b ≤ q ∧ q < 2 ^ h) by omega)]
          subst hu; subst hv
          have f1 : (q : Int) ≥ (a : Int) := by omega
          have f2 : (q : Int) < (b : Int) := by omega
          rw [if_pos f1, decide_eq_true f2, if_pos (by decide), if_pos f2, if_pos (by decide), if_pos (by decide)]; rfl
        · have f1 : (q : Int) ≥ (a : Int) := by omega
          have f2 : ¬ (q : Int) < (b : Int) := by omega
          replace hu : u = 0 := by rw [← hu, if_neg (by omega)]
          rw [if_pos f1, decide_eq_false f2, if_pos (by rw [hu]; decide), if_neg f2]
          by_cases q3 : q < 2 ^ h
          · replace hv : v = 1 := by rw [← hv, if_neg (show ¬ (0 ≤ q ∧ q < a) by omega), if_pos (show (b ≤ q ∧ q < 2 ^ h) by omega)]
            subst hu; subst hv
            have f3 : (q : Int) < ((2 ^ h : Nat) : Int) := by omega
            rw [decide_eq_true f3, if_pos (by decide), if_pos (by decide)]; rfl
          · replace hv : v = 0 := by rw [← hv, if_neg (show ¬ (0 ≤ q ∧ q < a) by omega), if_neg (show ¬ (b ≤ q ∧ q < 2 ^ h) by omega)]
            subst hu; subst hv
            have f3 : ¬ (q : Int) < ((2 ^ h : Nat) : Int) := by omega
            rw [decide_eq_false f3, if_pos (by decide), if_pos (by decide)]; rfl
      · have f1 : ¬ (q : Int) ≥ (a : Int) := by omega
        replace hu : u = 0 := by rw [← hu, if_neg (by omega)]
        replace hv : v = 1 := by rw [← hv, if_pos (show (0 ≤ q ∧ q < a) by omega), if_neg (show ¬ (b ≤ q ∧ q < 2 ^ h) by omega)]
        subst hu; subst hv
        have f3 : (q : Int) < ((2 ^ h : Nat) : Int) := by omega
        rw [if_neg f1, if_pos (by decide), decide_eq_true f3, if_pos (by decide), if_pos (by decide)]; rfl
    · rw [if_neg hm, if_neg hm, if_neg (by simpa using hm)]
      simp [wrap64]
  · rw [Of_no _ _ _ _ hh, Out_no _ _ _ _ hh, may_no _ _ _ hh]
    simp [wrap64]
end Go.Proofs.YtaeaacdjiijooaaDoor.Pr
