/- Proved here: the pure statement of CoverFree. -/
import Derived.Test.YtaeaacdjiijooaaDoorPrx17
import Derived.Test.YtaeaacdjiijooaaDoorTiles
namespace Go.Proofs.YtaeaacdjiijooaaDoor.Pr
open Go.RowKit Go.Proofs.YtaeaacdjiijooaaDoorW.PrintWords Go.Proofs.YtaeaacdjiijooaaDoorW.PrintLast Go.Proofs.YtaeaacdjiijooaaDoorW.PrintMore

theorem posOk_lt (h : Nat) : ∀ l : List Int, posOk h l = true → ∀ x ∈ l, x < ((2 ^ h : Nat) : Int)
  | [], _, x, hx => by cases hx
  | [y], hp, x, hx => by
    rw [pow_cast]
    obtain rfl := List.mem_singleton.1 hx
    simpa [posOk] using hp
  | y :: z :: r, hp, x, hx => by
    simp only [posOk, Bool.and_eq_true, decide_eq_true_eq] at hp
    rcases List.mem_cons.1 hx with rfl | hx
    · rw [pow_cast]; exact hp.1.1
    · exact posOk_lt h (z :: r) hp.2 x hx

/-- Blocks and positions, one behind the other, from a to b. -/
inductive Mix : Nat → Nat → List Int → List S33 → Prop
  | nil (a : Nat) : Mix a a [] []
  | pos {a b : Nat} {ps : List Int} {l : List S33} (h : Mix (a + 1) b ps l) : Mix a b ((a : Int) :: ps) l
  | blk {a b c : Nat} {ps : List Int} {x : S33} {l : List S33} (hx : BlkAt x a c) (h : Mix c b ps l) : Mix a b ps (x :: l)
theorem Mix.le {a b : Nat} {ps : List Int} {l : List S33} (h : Mix a b ps l) : a ≤ b := by
  induction h with
  | nil => exact Nat.le_refl _
  | pos _ ih => omega
  | blk hx _ ih => have := hx.lt; omega
theorem Mix.ge {a b : Nat} {ps : List Int} {l : List S33} (h : Mix a b ps l) : ∀ x ∈ ps, (a : Int) ≤ x := by
  induction h with
  | nil => intro x hx; cases hx
  | pos _ ih =>
    intro x hx
    rcases List.mem_cons.1 hx with rfl | hx
    · omega
    · have := ih x hx; omega
  | blk hx _ ih => intro y hy; have := ih y hy; have := hx.lt; omega
theorem Mix.append {a b c : Nat} {ps qs : List Int} {l m : List S33} (h : Mix a b ps l) (k : Mix b c qs m) : Mix a c (ps ++ qs) (l ++ m) := by
  induction h with
  | nil => exact k
  | pos _ ih => exact .pos (ih k)
  | blk hx _ ih => exact .blk hx (ih k)

theorem around_split (n b : Nat) (ps : List Int) (hp : ps ≠ []) (hs : ps.Pairwise (· < ·)) (hx : ∀ x ∈ ps, ((b * 2 ^ (n + 1) : Nat) : Int) ≤ x ∧ x < (((b + 1) * 2 ^ (n + 1) : Nat) : Int)) :
    ∃ ys zs, ps = ys ++ zs ∧ aroundL (n + 1) b ps = aroundL n ((2 * b : Nat) : Int) ys ++ aroundL n ((2 * b + 1 : Nat) : Int) zs ∧ ys.Pairwise (· < ·) ∧ zs.Pairwise (· < ·) ∧
      (∀ y ∈ ys, ((2 * b * 2 ^ n : Nat) : Int) ≤ y ∧ y < (((2 * b + 1) * 2 ^ n : Nat) : Int)) ∧ (∀ y ∈ zs, (((2 * b + 1) * 2 ^ n : Nat) : Int) ≤ y ∧ y < (((2 * b + 1 + 1) * 2 ^ n : Nat) : Int)) := by
  obtain ⟨e1, e2, e3, e4⟩ := pow_half n b
  obtain ⟨q, hq⟩ : ∃ q : Int → Bool, (fun y => decide (y < (((2 * b + 1) * 2 ^ n : Nat) : Int))) = q := ⟨_, rfl⟩
  have hsplit : ps.takeWhile q ++ ps.dropWhile q = ps := List.takeWhile_append_dropWhile
  have s1 := List.takeWhile_sublist (l := ps) q
  have s2 := List.dropWhile_sublist (l := ps) q
  have k1 : ∀ y ∈ ps.takeWhile q, y < (((2 * b + 1) * 2 ^ n : Nat) : Int) := fun y hy => by
    have : q y = true := List.all_eq_true.1 (List.all_takeWhile (p := q) (l := ps)) y hy
    rw [← hq] at this; simpa using this
  have k2 : ∀ y ∈ ps.dropWhile q, (((2 * b + 1) * 2 ^ n : Nat) : Int) ≤ y := fun y hy => by
    have hp := hs.sublist s2
    cases hd : ps.dropWhile q with
    | nil => rw [hd] at hy; cases hy
    | cons z zs =>
      have hz : q z = false := by
        have := List.head_dropWhile_not q (l := ps) (by rw [hd]; simp)
        simpa [hd] using this
      rw [← hq] at hz
      have hz' : (((2 * b + 1) * 2 ^ n : Nat) : Int) ≤ z := by simpa using hz
      rw [hd] at hy hp
      rcases List.mem_cons.1 hy with rfl | hy
      · exact hz'
      · have := (List.pairwise_cons.1 hp).1 y hy; omega
  refine ⟨ps.takeWhile q, ps.dropWhile q, hsplit.symm, ?_, hs.sublist s1, hs.sublist s2, fun y hy => ⟨?_, k1 y hy⟩, fun y hy => ⟨k2 y hy, ?_⟩⟩
  · cases ps with
    | nil => exact absurd rfl hp
    | cons x xs => rw [← hq]; simp only [aroundL]; push_cast; rfl
  · have := (hx y (s1.subset hy)).1; omega
  · have := (hx y (s2.subset hy)).2; omega

theorem around_mix : ∀ (n b : Nat) (ps : List Int), n ≤ 63 → (b + 1) * 2 ^ n ≤ 9223372036854775808 → ps.Pairwise (· < ·) → (∀ x ∈ ps, ((b * 2 ^ n : Nat) : Int) ≤ x ∧ x < (((b + 1) * 2 ^ n : Nat) : Int)) →
    Mix (b * 2 ^ n) ((b + 1) * 2 ^ n) ps (aroundL n b ps) := by
  intro n
  induction n with
  | zero =>
    intro b ps hn hb hs hx
    cases ps with
    | nil => exact .blk ⟨0, b, rfl, by omega, rfl, rfl, hb⟩ (.nil _)
    | cons x xs =>
      have h1 := hx x (by simp)
      have e : x = ((b * 2 ^ 0 : Nat) : Int) := by simp at h1 ⊢; omega
      have e2 : xs = [] := by
        cases xs with
        | nil => rfl
        | cons y ys =>
          have h2 := hx y (by simp)
          have h3 := (List.pairwise_cons.1 hs).1 y (by simp)
          simp at h1 h2; omega
      subst e; subst e2
      have : (b + 1) * 2 ^ 0 = b * 2 ^ 0 + 1 := by omega
      rw [this]
      exact .pos (.nil _)
  | succ n ih =>
    intro b ps hn hb hs hx
    by_cases hp : ps = []
    · subst hp; exact .blk ⟨n + 1, b, rfl, by omega, rfl, rfl, hb⟩ (.nil _)
    · obtain ⟨e1, e2, e3, e4⟩ := pow_half n b
      have hpos := Nat.two_pow_pos n
      obtain ⟨ys, zs, rfl, ea, hs1, hs2, b1, b2⟩ := around_split n b ps hp hs hx
      rw [ea, e1, e2]
      have m1 := ih (2 * b) ys (by omega) (by omega) hs1 b1
      have m2 := ih (2 * b + 1) zs (by omega) (by omega) hs2 b2
      rw [e4] at m2
      exact m1.append m2

/-- Of each block but the whole, the one above it has a position. -/
theorem around_hit : ∀ (n b : Nat) (ps : List Int), n ≤ 63 → (b + 1) * 2 ^ n ≤ 9223372036854775808 → ps.Pairwise (· < ·) → (∀ x ∈ ps, ((b * 2 ^ n : Nat) : Int) ≤ x ∧ x < (((b + 1) * 2 ^ n : Nat) : Int)) →
    ∀ x ∈ aroundL n b ps, (x = ⟨(n : Int), (b : Int)⟩ ∧ ps = []) ∨ ∃ m p : Nat, m < n ∧ x = ⟨(m : Int), (p : Int)⟩ ∧ (p / 2 + 1) * 2 ^ (m + 1) ≤ (b + 1) * 2 ^ n ∧ ∃ y ∈ ps, ((p / 2 * 2 ^ (m + 1) : Nat) : Int) ≤ y ∧ y < (((p / 2 + 1) * 2 ^ (m + 1) : Nat) : Int) := by
  intro n
  induction n with
  | zero =>
    intro b ps hn hb hs hx x hm
    cases ps with
    | nil => exact .inl ⟨by simpa [aroundL] using hm, rfl⟩
    | cons y ys => simp [aroundL] at hm
  | succ n ih =>
    intro b ps hn hb hs hx x hm
    by_cases hp : ps = []
    · subst hp; exact .inl ⟨by simpa [aroundL] using hm, rfl⟩
    · right
      obtain ⟨e1, e2, e3, e4⟩ := pow_half n b
      have hpos := Nat.two_pow_pos n
      obtain ⟨y0, hy0⟩ : ∃ y, y ∈ ps := by cases ps with | nil => exact absurd rfl hp | cons y _ => exact ⟨y, by simp⟩
      have hy1 := hx y0 hy0
      obtain ⟨ys, zs, rfl, ea, hs1, hs2, b1, b2⟩ := around_split n b ps hp hs hx
      rw [ea] at hm
      rcases List.mem_append.1 hm with hm | hm
      · rcases ih (2 * b) ys (by omega) (by omega) hs1 b1 x hm with ⟨rfl, _⟩ | ⟨m, p, h1, h2, h3, y, h4, h5⟩
        · refine ⟨n, 2 * b, by omega, rfl, ?_, y0, hy0, ?_⟩
          · rw [show 2 * b / 2 = b by omega]; exact Nat.le_refl _
          · rw [show 2 * b / 2 = b by omega]; exact hy1
        · exact ⟨m, p, by omega, h2, by omega, y, List.mem_append_left _ h4, h5⟩
      · rcases ih (2 * b + 1) zs (by omega) (by omega) hs2 b2 x hm with ⟨rfl, _⟩ | ⟨m, p, h1, h2, h3, y, h4, h5⟩
        · refine ⟨n, 2 * b + 1, by omega, rfl, ?_, y0, hy0, ?_⟩
          · rw [show (2 * b + 1) / 2 = b by omega]; exact Nat.le_refl _
          · rw [show (2 * b + 1) / 2 = b by omega]; exact hy1
        · exact ⟨m, p, by omega, h2, by omega, y, List.mem_append_right _ h4, h5⟩

def hasF (q : Nat) (x : S33) : Bool := cover_Has.f x.f0 x.f1 (q : Int) == some true
theorem hasF_blk {x : S33} {a b : Nat} (h : BlkAt x a b) (q : Nat) : hasF q x = decide (a ≤ q ∧ q < b) ∧ cover_Has.f x.f0 x.f1 (q : Int) = some (hasF q x) := by
  unfold hasF; rw [has_is h]; by_cases hq : a ≤ q ∧ q < b <;> simp [hq]
theorem Mix.all (q : Nat) {a b : Nat} {ps : List Int} {l : List S33} (h : Mix a b ps l) : ∀ x ∈ l, cover_Has.f x.f0 x.f1 (q : Int) = some (hasF q x) := by
  induction h with
  | nil => intro x hx; cases hx
  | pos _ ih => exact ih
  | blk hx _ ih =>
    intro y hy
    rcases List.mem_cons.1 hy with rfl | hy
    · exact (hasF_blk hx q).2
    · exact ih y hy
theorem Mix.count (q : Nat) {a b : Nat} {ps : List Int} {l : List S33} (h : Mix a b ps l) : l.countP (hasF q) + ps.countP (fun y => decide (y = (q : Int))) = if a ≤ q ∧ q < b then 1 else 0 := by
  induction h with
  | nil a => rw [if_neg (by omega)]; rfl
  | @pos a b ps l h ih =>
    have hle := h.le
    rw [List.countP_cons, ← Nat.add_assoc, ih]
    simp only [decide_eq_true_eq]
    split <;> split <;> split <;> omega
  | @blk a b c ps x l hx h ih =>
    have hle := h.le
    have hlt := hx.lt
    rw [List.countP_cons, (hasF_blk hx q).1, Nat.add_right_comm, ih]
    simp only [decide_eq_true_eq]
    split <;> split <;> split <;> omega

theorem free3 (h o : Nat) (ps : List Int) (l : List S33) (hl : l.length ≤ 1000000) (ha : ∀ x ∈ l, cover_Has.f x.f0 x.f1 (o : Int) = some (hasF o x)) : ∀ (d k i n : Nat), l.length - i = d → i ≤ l.length → n + d ≤ 1000000 →
    paymasterlaw20_CoverFree.l3 (k + d + 1) h ps o l (n : Int) (i : Int) = paymasterlaw20_CoverFree.l4 k h ps o ((n + (l.drop i).countP (hasF o) : Nat) : Int) 0 := by
  intro d
  induction d with
  | zero =>
    intro k i n h1 h2 hx
    rw [paymasterlaw20_CoverFree.l3, if_neg (by omega), List.drop_of_length_le (by omega)]; rfl
  | succ d ih =>
    intro k i n h1 h2 hx
    have hi : i < l.length := by omega
    rw [show k + (d + 1) + 1 = (k + d + 1) + 1 by omega, paymasterlaw20_CoverFree.l3, if_pos (by omega), if_pos (by omega), rd_at l i hi, ha _ (List.getElem_mem hi)]
    simp only [Option.bind_some]
    have w : wrap64 ((i : Int) + 1) = ((i + 1 : Nat) : Int) := by rw [IntWalk.wrap64_in _ (by omega)]; omega
    have w2 : wrap64 ((n : Int) + 1) = ((n + 1 : Nat) : Int) := by rw [IntWalk.wrap64_in _ (by omega)]; omega
    rw [w, w2, List.drop_eq_getElem_cons hi, List.countP_cons]
    by_cases hq : hasF o l[i] = true
    · rw [if_pos hq, if_pos hq, ih k (i + 1) (n + 1) (by omega) (by omega) (by omega)]; congr 2; omega
    · rw [if_neg hq, if_neg hq, ih k (i + 1) n (by omega) (by omega) (by omega)]; rfl
theorem rdi_at (l : List Int) (i : Nat) (h : i < l.length) : rd l (i : Int) = l[i] := by simp [rd, h]
theorem free4 (h o z : Nat) (hz : z = if o < 2 ^ h then 1 else 0) (hh : h ≤ 63) (ps : List Int) (hl : ps.length ≤ 1000000) : ∀ (d k i n : Nat), ps.length - i = d → i ≤ ps.length → n + d ≤ 3000000 →
    (n + (ps.drop i).countP (fun y => decide (y = (o : Int))) = z) →
    paymasterlaw20_CoverFree.l4 (k + d + 1) h ps o (n : Int) (i : Int) = some true := by
  intro d
  induction d with
  | zero =>
    intro k i n h1 h2 hx hc
    rw [List.drop_of_length_le (by omega)] at hc
    rw [paymasterlaw20_CoverFree.l4, if_neg (by omega), ltwo_is h hh]
    simp only [Option.bind_some]
    have hc : n = if o < 2 ^ h then 1 else 0 := Eq.trans hc hz
    clear hz
    by_cases q3 : o < 2 ^ h
    · rw [if_pos q3] at hc; subst hc
      have f3 : (o : Int) < ((2 ^ h : Nat) : Int) := by omega
      rw [decide_eq_true f3, if_pos (by decide)]; rfl
    · rw [if_neg q3] at hc; subst hc
      have f3 : ¬ (o : Int) < ((2 ^ h : Nat) : Int) := by omega
      rw [decide_eq_false f3, if_pos (by decide)]; rfl
  | succ d ih =>
    clear hz
    intro k i n h1 h2 hx hc
    have hi : i < ps.length := by clear hc; omega
    have a1 : ps.length - (i + 1) = d := by clear hc; omega
    have a3 : n + 1 + d ≤ 3000000 := by clear hc; omega
    have a4 : n + d ≤ 3000000 := by clear hc; omega
    have w : wrap64 ((i : Int) + 1) = ((i + 1 : Nat) : Int) := by clear hc; rw [IntWalk.wrap64_in _ (by omega)]; omega
    have w2 : wrap64 ((n : Int) + 1) = ((n + 1 : Nat) : Int) := by clear hc; rw [IntWalk.wrap64_in _ (by omega)]; omega
    have p1 : (i : Int) < (ps.length : Int) := by clear hc; omega
    have p2 : (0 : Int) ≤ (i : Int) := by clear hc; omega
    rw [List.drop_eq_getElem_cons hi, List.countP_cons] at hc
    rw [show k + (d + 1) + 1 = (k + d + 1) + 1 by omega, paymasterlaw20_CoverFree.l4, if_pos p1, if_pos p2, rdi_at ps i hi]
    rw [w, w2]
    by_cases hq : ps[i] = (o : Int)
    · rw [if_pos hq]
      refine ih k (i + 1) (n + 1) a1 hi a3 (Eq.trans ?_ hc)
      have hd : decide (ps[i] = (o : Int)) = true := decide_eq_true hq
      rw [hd]; clear hc ih; simp only [if_true]; omega
    · rw [if_neg hq]
      refine ih k (i + 1) n a1 hi a4 (Eq.trans ?_ hc)
      have hd : decide (ps[i] = (o : Int)) = false := decide_eq_false hq
      rw [hd]; rfl

section
variable (h o : Nat) (hh : h ≤ 63) (ps : List Int) (L : List S33)
theorem hit_on {lv pl : Int} {at_ nx i : Int} (hp : ps.length ≤ 1000000) (hk : ∃ k, paymasterlaw20_CoverFree.l0 k h ps o L at_ nx (wrap64 (i + 1)) = some true) : ∀ (d j : Nat), ps.length - j = d → j ≤ ps.length →
    ∃ k, paymasterlaw20_CoverFree.l2 k h ps o L at_ nx i true (j : Int) lv pl = some true := by
  intro d
  induction d with
  | zero =>
    intro j h1 h2
    obtain ⟨k, hk⟩ := hk
    exact ⟨k + 1, by rw [paymasterlaw20_CoverFree.l2, if_neg (by omega), if_pos rfl]; exact hk⟩
  | succ d ih =>
    intro j h1 h2
    obtain ⟨k, hk⟩ := ih (j + 1) (by omega) (by omega)
    have w : wrap64 ((j : Int) + 1) = ((j + 1 : Nat) : Int) := by rw [IntWalk.wrap64_in _ (by omega)]; omega
    exact ⟨k + 1, by rw [paymasterlaw20_CoverFree.l2, if_pos (by omega), if_pos rfl, w]; exact hk⟩
theorem hit_off {x : S33} {a c : Nat} (hx : BlkAt x a c) {at_ nx i : Int} (hp : ps.length ≤ 1000000) (hn : ∀ y ∈ ps, 0 ≤ y) (hk : ∃ k, paymasterlaw20_CoverFree.l0 k h ps o L at_ nx (wrap64 (i + 1)) = some true) : ∀ (d j : Nat), ps.length - j = d → j ≤ ps.length → (∃ y ∈ ps.drop j, (a : Int) ≤ y ∧ y < (c : Int)) →
    ∃ k, paymasterlaw20_CoverFree.l2 k h ps o L at_ nx i false (j : Int) x.f0 x.f1 = some true := by
  intro d
  induction d with
  | zero =>
    intro j h1 h2 hy
    rw [List.drop_of_length_le (by omega)] at hy
    obtain ⟨y, hy, _⟩ := hy; cases hy
  | succ d ih =>
    intro j h1 h2 hy
    have hj : j < ps.length := by omega
    have w : wrap64 ((j : Int) + 1) = ((j + 1 : Nat) : Int) := by rw [IntWalk.wrap64_in _ (by omega)]; omega
    have h0 := hn _ (List.getElem_mem hj)
    have e0 : ps[j] = ((ps[j].toNat : Nat) : Int) := by omega
    have hh := has_is hx (ps[j].toNat)
    rw [← e0] at hh
    by_cases hc : a ≤ ps[j].toNat ∧ ps[j].toNat < c
    · obtain ⟨k, hk⟩ := hit_on h o ps L (lv := x.f0) (pl := x.f1) hp hk d (j + 1) (by omega) (by omega)
      refine ⟨k + 1, ?_⟩
      rw [paymasterlaw20_CoverFree.l2, if_pos (by omega), if_neg (by simp), if_pos (by omega), rdi_at ps j hj, hh, decide_eq_true hc]
      simp only [Option.bind_some]
      rw [w]; exact hk
    · rw [List.drop_eq_getElem_cons hj] at hy
      obtain ⟨y, hy, hy1, hy2⟩ := hy
      have hy' : y ∈ ps.drop (j + 1) := by
        rcases List.mem_cons.1 hy with rfl | hy
        · exact absurd ⟨by omega, by omega⟩ hc
        · exact hy
      obtain ⟨k, hk⟩ := ih (j + 1) (by omega) (by omega) ⟨y, hy', hy1, hy2⟩
      refine ⟨k + 1, ?_⟩
      rw [paymasterlaw20_CoverFree.l2, if_pos (by omega), if_neg (by simp), if_pos (by omega), rdi_at ps j hj, hh, decide_eq_false hc]
      simp only [Option.bind_some]
      rw [w]; exact hk

theorem free_walk (hp : ps.length ≤ 100) (hL : L.length ≤ 1000000) (hn : ∀ y ∈ ps, 0 ≤ y) (hb : 2 ^ h ≤ 9223372036854775808)
    (hhit : ∀ x ∈ L, x.f0 = (h : Int) ∨ ∃ m p : Nat, m < h ∧ x = ⟨(m : Int), (p : Int)⟩ ∧ (p / 2 + 1) * 2 ^ (m + 1) ≤ 2 ^ h ∧ ∃ y ∈ ps, ((p / 2 * 2 ^ (m + 1) : Nat) : Int) ≤ y ∧ y < (((p / 2 + 1) * 2 ^ (m + 1) : Nat) : Int))
    (hfin : ∃ k, paymasterlaw20_CoverFree.l3 k h ps o L 0 0 = some true) (hh : h ≤ 63) :
    ∀ {at_ B : Nat} {qs : List Int} {ms : List S33}, Mix at_ B qs ms → ∀ (nx i : Nat), B = 2 ^ h → nx ≤ ps.length → i ≤ L.length → ps.drop nx = qs → L.drop i = ms →
      ∃ k, paymasterlaw20_CoverFree.l1 k h ps o L (at_ : Int) (nx : Int) (i : Int) = some true := by
  intro at_ B qs ms hm
  induction hm with
  | nil a =>
    intro nx i hB h1 h2 e1 e2
    have hnx : nx = ps.length := by
      have := congrArg List.length e1; rw [List.length_drop] at this; simp at this; omega
    have hi : i = L.length := by
      have := congrArg List.length e2; rw [List.length_drop] at this; simp at this; omega
    subst hnx; subst hi; subst hB
    obtain ⟨k, hk⟩ := hfin
    refine ⟨k + 4, ?_⟩
    rw [paymasterlaw20_CoverFree.l1, if_neg (by omega), paymasterlaw20_CoverFree.j2, if_pos rfl, paymasterlaw20_CoverFree.j5, ltwo_is h hh]
    simp only [Option.bind_some]
    rw [if_pos trivial, show ((ps.length : Int) != (ps.length : Int)) = false by simp, paymasterlaw20_CoverFree.j6, if_neg (by simp)]
    exact hk
  | @pos a b qs ms hm ih =>
    intro nx i hB h1 h2 e1 e2
    have hnx : nx < ps.length := by
      have := congrArg List.length e1; rw [List.length_drop] at this; simp at this; omega
    rw [List.drop_eq_getElem_cons hnx] at e1
    obtain ⟨e3, e4⟩ := List.cons.inj e1
    obtain ⟨k, hk⟩ := ih (nx + 1) i hB (by omega) h2 e4 e2
    have hle := hm.le
    refine ⟨k + 1, ?_⟩
    have w : wrap64 ((nx : Int) + 1) = ((nx + 1 : Nat) : Int) := by rw [IntWalk.wrap64_in _ (by omega)]; omega
    have w2 : IntKind.u64.wrap ((a : Int) + 1) = ((a + 1 : Nat) : Int) := by rw [IntWalk.u64_in _ (by omega)]; omega
    rw [paymasterlaw20_CoverFree.l1, if_pos (by omega), if_pos (by omega), rdi_at ps nx hnx, if_pos e3, w, w2]
    exact hk
  | @blk a b c qs x ms hx hm ih =>
    intro nx i hB h1 h2 e1 e2
    have hi : i < L.length := by
      have := congrArg List.length e2; rw [List.length_drop] at this; simp at this; omega
    rw [List.drop_eq_getElem_cons hi] at e2
    obtain ⟨e3, e4⟩ := List.cons.inj e2
    have hlt := hx.lt
    have hle := hm.le
    have w : wrap64 ((i : Int) + 1) = ((i + 1 : Nat) : Int) := by rw [IntWalk.wrap64_in _ (by omega)]; omega
    have next : ∃ k, paymasterlaw20_CoverFree.l0 k h ps o L (c : Int) (nx : Int) (wrap64 ((i : Int) + 1)) = some true := by
      obtain ⟨k, hk⟩ := ih nx (i + 1) hB h1 (by omega) e1 e4
      exact ⟨k + 1, by rw [w, paymasterlaw20_CoverFree.l0, if_pos (by omega)]; exact hk⟩
    have hxm : x ∈ L := by rw [← e3]; exact List.getElem_mem hi
    have j3 : ∃ k, paymasterlaw20_CoverFree.j3 k h ps o L (nx : Int) (i : Int) (c : Int) false = some true := by
      by_cases hl : x.f0 = (h : Int)
      · obtain ⟨k, hk⟩ := next
        exact ⟨k + 1, by rw [paymasterlaw20_CoverFree.j3, if_neg (by simp), if_pos (by omega), if_pos (by omega), rd_at L i hi, e3, if_pos hl]; exact hk⟩
      · rcases hhit x hxm with e | ⟨m, p, hm1, rfl, hm2, y, hy, hy1, hy2⟩
        · exact absurd e hl
        · have hb2 : BlkAt ⟨((m + 1 : Nat) : Int), ((p / 2 : Nat) : Int)⟩ (p / 2 * 2 ^ (m + 1)) ((p / 2 + 1) * 2 ^ (m + 1)) := ⟨m + 1, p / 2, rfl, by omega, rfl, rfl, by omega⟩
          obtain ⟨k, hk⟩ := hit_off h o ps L hb2 (by omega) hn next ps.length 0 (by omega) (by omega) ⟨y, by simpa using hy, hy1, hy2⟩
          refine ⟨k + 1, ?_⟩
          have w3 : wrap64 ((m : Int) + 1) = ((m + 1 : Nat) : Int) := by rw [IntWalk.wrap64_in _ (by omega)]; omega
          have hpb : p / 2 < 9223372036854775808 := by
            have : (p / 2 + 1) * 1 ≤ (p / 2 + 1) * 2 ^ (m + 1) := Nat.mul_le_mul_left _ (Nat.two_pow_pos _)
            omega
          have w4 : IntKind.u64.wrap (Int.tdiv (p : Int) 2) = ((p / 2 : Nat) : Int) := by
            rw [show Int.tdiv (p : Int) 2 = ((p / 2 : Nat) : Int) from rfl, wrap_small (by omega)]
          rw [paymasterlaw20_CoverFree.j3, if_neg (by simp), if_pos (by omega), if_pos (by omega), rd_at L i hi, e3, if_neg hl]
          simp only []
          rw [w3, w4]
          exact hk
    have j2 : ∃ k, paymasterlaw20_CoverFree.j2 k h ps o L (a : Int) (nx : Int) (i : Int) = some true := by
      obtain ⟨k, hk⟩ := j3
      refine ⟨k + 1, ?_⟩
      rw [paymasterlaw20_CoverFree.j2, if_neg (by omega), if_pos (by omega), if_pos (by omega), rd_at L i hi, e3, span_is hx]
      simp only [Option.bind_some]
      rw [if_pos trivial, decide_eq_false (by omega)]
      exact hk
    obtain ⟨k, hk⟩ := j2
    refine ⟨k + 1, ?_⟩
    rw [paymasterlaw20_CoverFree.l1]
    by_cases hnx : nx < ps.length
    · have hne : rd ps (nx : Int) ≠ (a : Int) := by
        rw [rdi_at ps nx hnx]
        rw [List.drop_eq_getElem_cons hnx] at e1
        have := hm.ge ps[nx] (by rw [← e1]; exact List.mem_cons_self)
        omega
      rw [if_pos (by omega), if_pos (by omega), if_neg hne]; exact hk
    · rw [if_neg (by omega)]; exact hk
end

theorem CoverFree : paymasterlaw20_CoverFree.Pure := by
  intro a0 l1 a2 _ _ _ hw h2
  obtain ⟨b2, b2'⟩ := u64_bd h2
  obtain ⟨o, rfl⟩ : ∃ n : Nat, a2 = (n : Int) := ⟨a2.toNat, by omega⟩
  have hx : ∀ x ∈ l1, 0 ≤ x ∧ x < 18446744073709551616 := fun x hx => u64_bd (hw x hx)
  by_cases hlen : (l1.length : Int) > 30
  · refine ⟨100001, ?_⟩
    unfold paymasterlaw20_CoverFree.f
    rw [awake_is _ (by omega)]; simp only [Option.bind_some]; rw [if_pos trivial, if_pos hlen]
  by_cases hh : 0 ≤ a0 ∧ a0 ≤ 63
  · obtain ⟨h, rfl⟩ : ∃ n : Nat, a0 = (n : Int) := ⟨a0.toNat, by omega⟩
    have hh' : h ≤ 63 := by omega
    have hp := pow_nat h hh'
    by_cases hok : posOk h l1 = true
    · have hA : ∀ k, cover_Around.f k (h : Int) l1 = some (aroundL h 0 l1, 0) := fun k => by
        unfold cover_Around.f; rw [if_pos ⟨by omega, hx⟩, if_pos (by omega), Int.toNat_natCast, if_pos hok]
      have hs := posOk_sorted h l1 hok
      have hlt : ∀ x ∈ l1, x < ((2 ^ h : Nat) : Int) := posOk_lt h l1 hok
      have hx2 : ∀ x ∈ l1, ((0 * 2 ^ h : Nat) : Int) ≤ x ∧ x < (((0 + 1) * 2 ^ h : Nat) : Int) := fun x hm => ⟨by have := (hx x hm).1; omega, by have := hlt x hm; omega⟩
      have hmix := around_mix h 0 l1 hh' (by omega) hs hx2
      have hhit := around_hit h 0 l1 hh' (by omega) hs hx2
      have hlen2 := aroundL_len h 0 l1
      have hl6 : (aroundL h 0 l1).length ≤ 2000 := by
        have e0 : ((0 : Nat) : Int) = 0 := rfl
        have : h * l1.length ≤ 63 * 30 := Nat.mul_le_mul hh' (by omega)
        split at hlen2 <;> omega
      simp only [Int.natCast_zero] at hmix hhit
      obtain ⟨L, hL⟩ : ∃ L, aroundL h 0 l1 = L := ⟨_, rfl⟩
      rw [hL] at hA hmix hhit hl6
      have hfin : ∃ k, paymasterlaw20_CoverFree.l3 k h l1 o L 0 0 = some true := by
        have hc := hmix.count o
        refine ⟨(0 + l1.length + 1) + L.length + 1, ?_⟩
        have e := free3 h o l1 L (by omega) (hmix.all o) L.length (0 + l1.length + 1) 0 0 (by omega) (by omega) (by omega)
        refine e.trans (free4 h o _ rfl hh' l1 (by omega) l1.length 0 0 _ (by omega) (by omega) ?_ ?_)
        · have := List.countP_le_length (p := hasF o) (l := L.drop 0); rw [List.drop_zero] at this; rw [List.drop_zero]; omega
        · rw [List.drop_zero, List.drop_zero, Nat.zero_add, hc]
          simp
      obtain ⟨k, hk⟩ := free_walk h o l1 L (by omega) (by omega) (fun y hy => (hx y hy).1) (by omega) (fun x hm => by
        rcases hhit x hm with ⟨rfl, _⟩ | ⟨m, p, h1, h2, h3, h4⟩
        · exact .inl rfl
        · exact .inr ⟨m, p, h1, h2, by omega, h4⟩) hfin hh' hmix 0 0 (by omega) (by omega) (by omega) rfl rfl
      have key : ∃ k, paymasterlaw20_CoverFree.l0 k h l1 o L 0 0 0 = some true := ⟨k + 1, by rw [paymasterlaw20_CoverFree.l0, if_pos (by omega)]; simpa using hk⟩
      obtain ⟨k, hk⟩ := key
      have mono : ∀ j, paymasterlaw20_CoverFree.l0 (k + j) h l1 o L 0 0 0 = some true := fun j => by
        induction j with
        | zero => exact hk
        | succ j ih => exact (paymasterlaw20_CoverFree.mono_l (k + j)).2.2.2.2.1 _ _ _ _ _ _ _ _ ih
      refine ⟨k + 100001, ?_⟩
      unfold paymasterlaw20_CoverFree.f
      rw [awake_is _ (by omega)]; simp only [Option.bind_some]; rw [if_pos trivial, if_neg hlen, hA]
      simp only [Option.bind_some]
      rw [if_pos trivial]; exact mono _
    · refine ⟨100001, ?_⟩
      have hA : ∀ k, cover_Around.f k (h : Int) l1 = some ([], 2) := fun k => by
        unfold cover_Around.f; rw [if_pos ⟨by omega, hx⟩, if_pos (by omega), Int.toNat_natCast, if_neg hok]
      unfold paymasterlaw20_CoverFree.f
      rw [awake_is _ (by omega)]; simp only [Option.bind_some]; rw [if_pos trivial, if_neg hlen, hA]; rfl
  · refine ⟨100001, ?_⟩
    have hA : ∀ k, cover_Around.f k a0 l1 = some ([], 120) := fun k => by
      unfold cover_Around.f; rw [if_pos ⟨by omega, hx⟩, if_neg hh]
    unfold paymasterlaw20_CoverFree.f
    rw [awake_is _ (by omega)]; simp only [Option.bind_some]; rw [if_pos trivial, if_neg hlen, hA]; rfl
end Go.Proofs.YtaeaacdjiijooaaDoor.Pr
