/- Proved here: the pure statement of DrawGaps (what spans reach, what is between them, how many hit a position). Conditions: none. -/
import Derived.Test.YtaeaacdjiijooaaSpanMath
import Derived.Test.YtaeaacdjiijooaaPrx21
namespace Go.Proofs.Ytaeaacdjiijooaa.Pr
open Go.RowKit Go.Proofs.YtaeaacdjiijooaaW.PrintWords Go.Proofs.YtaeaacdjiijooaaW.PrintLast Go.Proofs.YtaeaacdjiijooaaW.PrintMore
set_option linter.unusedVariables false

theorem g_wrap_u64 (n : Int) : IntKind.u64.wrap n = n % 18446744073709551616 := by simp [IntKind.wrap, IntKind.bits, IntKind.signed]
theorem g_u64_bd {a : Int} (h : (Lit.int .u64 a).wf = true) : 0 ≤ a ∧ a < 18446744073709551616 := by
  simp [Lit.wf, IntKind.min, IntKind.max, IntKind.signed, IntKind.bits] at h
  omega
theorem g_pow_nat (h : Nat) (hh : h ≤ 63) : 1 ≤ 2 ^ h ∧ 2 ^ h ≤ 9223372036854775808 := by
  have h1 : (1 : Nat) ≤ 2 ^ h := Nat.one_le_two_pow
  have h2 : (2 : Nat) ^ h ≤ 2 ^ 63 := Nat.pow_le_pow_right (by omega) hh
  have h4 : (2 : Nat) ^ 63 = 9223372036854775808 := by decide
  omega
theorem g_wrap_small {n : Int} (h0 : 0 ≤ n) (h : n < 18446744073709551616) : IntKind.u64.wrap n = n := by rw [g_wrap_u64]; omega
theorem g_two_from (d : Nat) : ∀ (k : Nat) (h i : Nat), h ≤ 63 → h = i + d → d < k → paymasterref16_Two.l0 k h ((2 ^ i : Nat) : Int) (i : Int) = some ((2 ^ h : Nat) : Int) := by
  induction d with
  | zero =>
    intro k h i hh he hk
    obtain ⟨k, rfl⟩ : ∃ m, k = m + 1 := ⟨k - 1, by omega⟩
    obtain rfl : h = i := by omega
    simp only [paymasterref16_Two.l0]; rw [if_neg (by omega)]
  | succ d ih =>
    intro k h i hh he hk
    obtain ⟨k, rfl⟩ : ∃ m, k = m + 1 := ⟨k - 1, by omega⟩
    simp only [paymasterref16_Two.l0]; rw [if_pos (by omega)]
    have hb := g_pow_nat (i + 1) (by omega)
    have e0 : (2 : Int) * ((2 ^ i : Nat) : Int) = ((2 ^ (i + 1) : Nat) : Int) := by rw [Nat.pow_succ]; omega
    have e1 : IntKind.u64.wrap (2 * ((2 ^ i : Nat) : Int)) = ((2 ^ (i + 1) : Nat) : Int) := by rw [e0]; exact g_wrap_small (by omega) (by omega)
    have e2 : wrap64 ((i : Int) + 1) = ((i + 1 : Nat) : Int) := by unfold wrap64; omega
    rw [e1, e2]
    exact ih k h (i + 1) hh (by omega) (by omega)
theorem g_two_is (k h : Nat) (hh : h ≤ 63) (hk : 64 ≤ k) : paymasterref16_Two.f k (h : Int) = some ((2 ^ h : Nat) : Int) := g_two_from h k h 0 hh (by omega) (by omega)
theorem g_shl (h : Nat) (hh : h ≤ 63) : shl .u64 1 (h : Int) = ((2 ^ h : Nat) : Int) := by
  have hb := g_pow_nat h hh
  unfold shl
  have : min ((h : Int).toNat) IntKind.u64.bits = h := by simp [IntKind.bits]; omega
  rw [this, Int.one_mul]
  have e : ((2 : Int) ^ h) = ((2 ^ h : Nat) : Int) := by simp
  rw [e]; exact g_wrap_small (by omega) (by omega)
theorem rd_at (l : List S29) (i : Nat) (h : i < l.length) : rd_T29 l (i : Int) = l[i] := by simp [rd_T29, h]
theorem w_succ {i : Nat} (h : i < 1000000) : wrap64 ((i : Int) + 1) = ((i + 1 : Nat) : Int) := by unfold wrap64; omega

/-- A span that may be, of height h. -/
def Good (E : Int) (x : S29) : Prop := x.f0 < x.f1 ∧ x.f1 ≤ E
theorem mayB_is (h : Nat) (hh : h ≤ 63) (x : S29) : mayB (h : Int) x = true ↔ Good ((2 ^ h : Nat) : Int) x := by
  have hh1 : cover_high.f (h : Int) = some true := by unfold cover_high.f; rw [if_pos (by omega)]; congr 1; simp; omega
  unfold mayB cover_May.f Good
  rw [hh1]
  simp only [Option.bind_some, if_true]
  by_cases c : x.f0 < x.f1
  · rw [if_pos c, if_pos (by omega), g_shl h hh]
    simp only [beq_iff_eq, Option.some.injEq, decide_eq_true_eq]
    exact ⟨fun k => ⟨c, k⟩, fun k => k.2⟩
  · rw [if_neg c]
    simp only [beq_iff_eq, Option.some.injEq]
    exact ⟨fun k => absurd k (by simp), fun k => absurd k.1 c⟩
theorem rmay_is (k h : Nat) (hh : h ≤ 63) (hk : 64 ≤ k) (x : S29) : ∃ b, paymasterref20_May.f k (h : Int) x.f0 x.f1 = some b ∧ (b = true ↔ Good ((2 ^ h : Nat) : Int) x) := by
  unfold paymasterref20_May.f Good
  rw [if_pos (by omega), if_pos (by omega)]
  by_cases c : x.f0 < x.f1
  · rw [if_pos c, g_two_is k h hh hk]; simp only [Option.bind_some]
    exact ⟨_, rfl, by simp [c]⟩
  · rw [if_neg c]; exact ⟨_, rfl, by simp [c]⟩

/-! ### the program: putting spans together -/
theorem merge_loop (l : List S29) (hl : l.length ≤ 3000) : ∀ (d k i : Nat) (init : List S29) (z : S29), l.length - i = d → i ≤ l.length → d < k → init.length + d ≤ 3000 →
    draw_merge.l0 k (init ++ [z]) l (l.length : Int) (i : Int) = some (mrest init z (l.drop i), 0) := by
  intro d
  induction d with
  | zero =>
    intro k i init z h1 h2 hk hi
    obtain ⟨k, rfl⟩ : ∃ m, k = m + 1 := ⟨k - 1, by omega⟩
    obtain rfl : i = l.length := by omega
    rw [draw_merge.l0, if_neg (by omega), List.drop_length, mrest]
  | succ d ih =>
    intro k i init z h1 h2 hk hi
    obtain ⟨k, rfl⟩ : ∃ m, k = m + 1 := ⟨k - 1, by omega⟩
    have hil : i < l.length := by omega
    have hlen : (init ++ [z]).length = init.length + 1 := by simp
    have ew : wrap64 (((init ++ [z]).length : Int) - 1) = (init.length : Int) := by rw [hlen]; unfold wrap64; omega
    have ez : rd_T29 (init ++ [z]) (init.length : Int) = z := by rw [rd_at _ _ (by omega)]; simp
    rw [draw_merge.l0, ew, ez, rd_at l i hil, if_pos (by omega), if_pos (by omega), if_pos (by omega), if_pos (by omega), if_pos (by omega), if_pos (by omega), w_succ (by omega), List.drop_eq_getElem_cons hil, mrest]
    by_cases c : l[i].f0 ≤ z.f1
    · rw [if_pos c, if_pos c, Int.toNat_natCast]
      have es : ∀ v : S29, (init ++ [z]).set init.length v = init ++ [v] := fun v => by rw [List.set_append_right _ _ (Nat.le_refl _)]; simp
      rw [es]
      exact ih k (i + 1) init _ (by omega) (by omega) (by omega) (by omega)
    · rw [if_neg c, if_neg c, if_pos (by omega)]
      exact ih k (i + 1) (init ++ [z]) l[i] (by omega) (by omega) (by omega) (by rw [hlen]; omega)
theorem merge_is (l : List S29) (k : Nat) (hl : l.length ≤ 2500) (hk : l.length + 1 < k) : draw_merge.l0 k [] l (l.length : Int) 0 = some (mall l, 0) := by
  obtain ⟨k, rfl⟩ : ∃ m, k = m + 1 := ⟨k - 1, by omega⟩
  cases l with
  | nil => rw [draw_merge.l0]; rfl
  | cons s r =>
    have e0 : wrap64 ((([] : List S29).length : Int) - 1) = -1 := by simp [wrap64]
    have e1 : wrap64 (0 + 1) = ((1 : Nat) : Int) := by unfold wrap64; omega
    have er : rd_T29 (s :: r) 0 = s := rfl
    rw [draw_merge.l0, e0, er, e1, if_pos (by simp only [List.length_cons]; omega), if_pos (by omega), if_pos (by simp only [List.length_cons]; omega), if_neg (by omega), if_pos (by decide)]
    exact merge_loop (s :: r) (by simp only [List.length_cons] at hl ⊢; omega) _ k 1 [] s rfl (by simp) (by simp only [List.length_cons] at hk ⊢; omega) (by simp only [List.length_cons, List.length_nil] at hl ⊢; omega)

theorem spSort_good (l : List S29) {E : Int} (hg : ∀ x, x ∈ l → Good E x) : Can (mall (spSort l)) ∧ (∀ p, Mem p (mall (spSort l)) ↔ Mem p l) ∧ (mall (spSort l)).length ≤ l.length := by
  obtain ⟨h1, h2, h3⟩ := spSort_sorts l
  obtain ⟨g1, g2, g3⟩ := mall_ok (spSort l) h3 (fun s hs => (hg s (h2.mem_iff.1 hs)).1)
  refine ⟨g1, fun p => (g2 p).trans ⟨?_, ?_⟩, by omega⟩
  · rintro ⟨x, hx, h⟩; exact ⟨x, h2.mem_iff.1 hx, h⟩
  · rintro ⟨x, hx, h⟩; exact ⟨x, h2.mem_iff.2 hx, h⟩
theorem whole_good (k h : Nat) (hh : h ≤ 63) (l : List S29) (hl : l.length ≤ 60) (hk : 100 ≤ k) (hg : ∀ x, x ∈ l → Good ((2 ^ h : Nat) : Int) x) : draw_whole.f k (h : Int) l = some (mall (spSort l), 0) := by
  obtain ⟨h1, _, _⟩ := spSort_sorts l
  have hb : (l.any fun x => !mayB (h : Int) x) = false := by
    rw [List.any_eq_false]
    intro x hx
    rw [(mayB_is h hh x).2 (hg x hx)]; simp
  rw [draw_whole.f, if_pos (by omega), if_pos (by omega), hb, if_neg (by simp)]
  exact merge_is _ k (by omega) (by omega)
theorem whole_bad (k h : Nat) (hh : h ≤ 63) (l : List S29) (hl : l.length ≤ 60) (hg : ¬ ∀ x, x ∈ l → Good ((2 ^ h : Nat) : Int) x) : draw_whole.f k (h : Int) l = some ([], 200) := by
  have hb : (l.any fun x => !mayB (h : Int) x) = true := by
    apply Classical.byContradiction; intro hc
    apply hg; intro x hx
    rw [Bool.not_eq_true, List.any_eq_false] at hc
    have := hc x hx
    exact (mayB_is h hh x).1 (by simpa using this)
  rw [draw_whole.f, if_pos (by omega), if_pos (by omega), if_pos hb]

/-! ### the program: what is between; how many -/
theorem gaps_loop (y : List S29) (hl : y.length ≤ 1000) : ∀ (d k i : Nat) (out : List S29) (a : Int), y.length - i = d → i ≤ y.length → d < k → out.length + d ≤ 3000 →
    draw_Gaps.l0 k out a y (y.length : Int) (i : Int) = some (out ++ gl a (y.drop i), 0) := by
  intro d
  induction d with
  | zero =>
    intro k i out a h1 h2 hk hi
    obtain ⟨k, rfl⟩ : ∃ m, k = m + 1 := ⟨k - 1, by omega⟩
    obtain rfl : i = y.length := by omega
    rw [draw_Gaps.l0, if_neg (by omega), List.drop_length, gl, List.append_nil]
  | succ d ih =>
    intro k i out a h1 h2 hk hi
    obtain ⟨k, rfl⟩ : ∃ m, k = m + 1 := ⟨k - 1, by omega⟩
    have hil : i < y.length := by omega
    rw [draw_Gaps.l0, rd_at y i hil, if_pos (by omega), if_pos (by omega), if_pos (by omega), w_succ (by omega), List.drop_eq_getElem_cons hil, gl]
    by_cases c : y[i].f0 > a
    · rw [if_pos c, if_pos c, if_pos (by omega), ih k (i + 1) _ _ (by omega) (by omega) (by omega) (by simp; omega)]
      simp
    · rw [if_neg c, if_neg c, ih k (i + 1) _ _ (by omega) (by omega) (by omega) (by omega)]
theorem reach_loop (M : List S29) (e : Int) (hl : M.length ≤ 1000) (hM : ∀ x, x ∈ M → x.f0 < x.f1) : ∀ (d k i : Nat) (s : Int), M.length - i = d → i ≤ M.length → d < k → 0 ≤ s → s + Len (M.drop i) ≤ 9223372036854775808 →
    draw_Reach.l0 k e s M (M.length : Int) (i : Int) = some (s + Len (M.drop i), e) := by
  intro d
  induction d with
  | zero =>
    intro k i s h1 h2 hk hs hb
    obtain ⟨k, rfl⟩ : ∃ m, k = m + 1 := ⟨k - 1, by omega⟩
    obtain rfl : i = M.length := by omega
    rw [draw_Reach.l0, if_neg (by omega), List.drop_length, Len, Int.add_zero]
  | succ d ih =>
    intro k i s h1 h2 hk hs hb
    obtain ⟨k, rfl⟩ : ∃ m, k = m + 1 := ⟨k - 1, by omega⟩
    have hil : i < M.length := by omega
    have hx := hM M[i] (List.getElem_mem hil)
    have hn := len_nonneg (M.drop (i + 1)) (fun x hx => hM x (List.mem_of_mem_drop hx))
    rw [List.drop_eq_getElem_cons hil, Len] at hb ⊢
    rw [draw_Reach.l0, rd_at M i hil, if_pos (by omega), if_pos (by omega), if_pos (by omega), w_succ (by omega), g_wrap_small (n := M[i].f1 - M[i].f0) (by omega) (by omega), g_wrap_small (by omega) (by omega), ih k (i + 1) _ (by omega) (by omega) (by omega) (by omega) (by omega)]
    congr 2; omega
theorem hits_loop (p : Int) (l : List S29) (hl : l.length ≤ 1000) : ∀ (d k i c : Nat), l.length - i = d → i ≤ l.length → d < k → c + d ≤ 3000 → draw_Hits.l0 k p (c : Int) l (l.length : Int) (i : Int) = some ((c + cnt p (l.drop i) : Nat) : Int) := by
  intro d
  induction d with
  | zero =>
    intro k i c h1 h2 hk hc
    obtain ⟨k, rfl⟩ : ∃ m, k = m + 1 := ⟨k - 1, by omega⟩
    obtain rfl : i = l.length := by omega
    rw [draw_Hits.l0, if_neg (by omega), List.drop_length, cnt, Nat.add_zero]
  | succ d ih =>
    intro k i c h1 h2 hk hc
    obtain ⟨k, rfl⟩ : ∃ m, k = m + 1 := ⟨k - 1, by omega⟩
    have hil : i < l.length := by omega
    rw [draw_Hits.l0, rd_at l i hil, if_pos (by omega), if_pos (by omega), if_pos (by omega), w_succ (i := i) (by omega), w_succ (i := c) (by omega), List.drop_eq_getElem_cons hil, cnt]
    by_cases c1 : p ≥ l[i].f0
    · rw [if_pos c1]
      by_cases c2 : p < l[i].f1
      · rw [if_pos c2, if_pos ⟨c1, c2⟩, ih k (i + 1) _ (by omega) (by omega) (by omega) (by omega)]; congr 1; omega
      · rw [if_neg c2, if_neg (fun h => c2 h.2), ih k (i + 1) _ (by omega) (by omega) (by omega) (by omega)]; congr 1; omega
    · rw [if_neg c1, if_neg (fun h => c1 h.1), ih k (i + 1) _ (by omega) (by omega) (by omega) (by omega)]; congr 1; omega

/-! ### the reference -/
theorem rhits_loop (p : Int) (l : List S29) (hl : l.length ≤ 1000) : ∀ (d k i c : Nat), l.length - i = d → i ≤ l.length → d < k → c + d ≤ 3000 → paymasterref22_Hits.l0 k l p (c : Int) (i : Int) = some ((c + cnt p (l.drop i) : Nat) : Int) := by
  intro d
  induction d with
  | zero =>
    intro k i c h1 h2 hk hc
    obtain ⟨k, rfl⟩ : ∃ m, k = m + 1 := ⟨k - 1, by omega⟩
    obtain rfl : i = l.length := by omega
    rw [paymasterref22_Hits.l0, if_neg (by omega), List.drop_length, cnt, Nat.add_zero]
  | succ d ih =>
    intro k i c h1 h2 hk hc
    obtain ⟨k, rfl⟩ : ∃ m, k = m + 1 := ⟨k - 1, by omega⟩
    have hil : i < l.length := by omega
    rw [paymasterref22_Hits.l0, rd_at l i hil, if_pos (by omega), if_pos (by omega), w_succ (i := i) (by omega), w_succ (i := c) (by omega), List.drop_eq_getElem_cons hil, cnt]
    by_cases c1 : p ≥ l[i].f0
    · rw [if_pos c1]
      by_cases c2 : p < l[i].f1
      · rw [if_pos c2, if_pos ⟨c1, c2⟩, ih k (i + 1) _ (by omega) (by omega) (by omega) (by omega)]; congr 1; omega
      · rw [if_neg c2, if_neg (fun h => c2 h.2), ih k (i + 1) _ (by omega) (by omega) (by omega) (by omega)]; congr 1; omega
    · rw [if_neg c1, if_neg (fun h => c1 h.1), ih k (i + 1) _ (by omega) (by omega) (by omega) (by omega)]; congr 1; omega
theorem hits_is (k : Nat) (p : Int) (l : List S29) (hl : l.length ≤ 60) (hk : 100 ≤ k) : draw_Hits.f k l p = some ((cnt p l : Nat) : Int) := by
  have := hits_loop p l (by omega) l.length k 0 0 (by omega) (by omega) (by omega) (by omega)
  rwa [List.drop_zero, Nat.zero_add] at this
theorem rhits_is (k : Nat) (p : Int) (l : List S29) (hl : l.length ≤ 60) (hk : 100 ≤ k) : paymasterref22_Hits.f k l p = some ((cnt p l : Nat) : Int) := by
  have := rhits_loop p l (by omega) l.length k 0 0 (by omega) (by omega) (by omega) (by omega)
  rwa [List.drop_zero, Nat.zero_add] at this
/-- What 'next' tells. -/
def NextOk (l : List S29) (a e t : Int) : Prop := a < t ∧ t ≤ e ∧ (∀ x, x ∈ l → (a < x.f0 → t ≤ x.f0) ∧ (a < x.f1 → t ≤ x.f1)) ∧ (t = e ∨ ∃ x, x ∈ l ∧ (x.f0 = t ∨ x.f1 = t))
theorem next_step {x : S29} {r : List S29} {a e e' t : Int} (h : NextOk r a e' t) (he : e' ≤ e) (h0 : a < x.f0 → e' ≤ x.f0) (h1 : a < x.f1 → e' ≤ x.f1) (h2 : e' = e ∨ x.f0 = e' ∨ x.f1 = e') : NextOk (x :: r) a e t := by
  obtain ⟨k1, k2, k3, k4⟩ := h
  refine ⟨k1, by omega, fun y hy => ?_, ?_⟩
  · rcases List.mem_cons.1 hy with rfl | hy
    · exact ⟨fun q => by have := h0 q; omega, fun q => by have := h1 q; omega⟩
    · exact k3 y hy
  · rcases k4 with rfl | ⟨y, hy, hq⟩
    · rcases h2 with h2 | h2
      · exact .inl h2
      · exact .inr ⟨x, List.mem_cons_self .., h2⟩
    · exact .inr ⟨y, List.mem_cons_of_mem _ hy, hq⟩
theorem next_loop (l : List S29) (a : Int) (hl : l.length ≤ 1000) : ∀ (d k i : Nat) (e : Int), l.length - i = d → i ≤ l.length → 2 * d < k → a < e → ∃ t, paymasterref22_next.l0 k l a e (i : Int) = some t ∧ NextOk (l.drop i) a e t := by
  intro d
  induction d with
  | zero =>
    intro k i e h1 h2 hk ha
    obtain ⟨k, rfl⟩ : ∃ m, k = m + 1 := ⟨k - 1, by omega⟩
    obtain rfl : i = l.length := by omega
    refine ⟨e, by rw [paymasterref22_next.l0, if_neg (by omega)], ha, Int.le_refl _, fun x hx => ?_, .inl rfl⟩
    rw [List.drop_length] at hx; cases hx
  | succ d ih =>
    intro k i e h1 h2 hk ha
    obtain ⟨k, rfl⟩ : ∃ m, k = m + 2 := ⟨k - 2, by omega⟩
    have hil : i < l.length := by omega
    have hw := w_succ (i := i) (by omega)
    rw [paymasterref22_next.l0, rd_at l i hil, if_pos (by omega), if_pos (by omega), List.drop_eq_getElem_cons hil]
    generalize hx : l[i] = x
    -- what the second half of a round does
    have half : ∀ (b : Bool) (e' : Int), a < e' → e' ≤ e → (a < x.f0 → e' ≤ x.f0) → (e' = e ∨ x.f0 = e') → (if b = true then e' = x.f0 else e' = e) →
        ∃ t, paymasterref22_next.j1 (k + 1) l a e (i : Int) b = some t ∧ NextOk (x :: l.drop (i + 1)) a e t := by
      intro b e' q1 q2 q3 q4 q5
      have go : ∀ e'' : Int, a < e'' → ∃ t, paymasterref22_next.l0 k l a e'' ((i + 1 : Nat) : Int) = some t ∧ NextOk (l.drop (i + 1)) a e'' t := fun e'' h => ih k (i + 1) e'' (by omega) (by omega) (by omega) h
      rw [paymasterref22_next.j1, rd_at l i hil, hx, hw]
      cases b with
      | true =>
        have q5 : e' = x.f0 := by simpa using q5
        rw [if_pos rfl, if_pos (by omega), if_pos (by omega)]
        by_cases c1 : x.f1 > a
        · rw [if_pos c1]
          by_cases c2 : x.f1 < x.f0
          · rw [if_pos c2]
            obtain ⟨t, ht, hn⟩ := go x.f1 c1
            exact ⟨t, ht, next_step hn (by omega) (fun _ => by omega) (fun _ => Int.le_refl _) (.inr (.inr rfl))⟩
          · rw [if_neg c2]
            obtain ⟨t, ht, hn⟩ := go x.f0 (by omega)
            exact ⟨t, ht, next_step hn (by omega) (fun _ => Int.le_refl _) (fun _ => by omega) (.inr (.inl rfl))⟩
        · rw [if_neg c1]
          obtain ⟨t, ht, hn⟩ := go x.f0 (by omega)
          exact ⟨t, ht, next_step hn (by omega) (fun _ => Int.le_refl _) (fun q => absurd q c1) (.inr (.inl rfl))⟩
      | false =>
        have q5 : e' = e := by simpa using q5
        subst q5
        rw [if_neg (by simp), if_pos (by omega), if_pos (by omega)]
        by_cases c1 : x.f1 > a
        · rw [if_pos c1]
          by_cases c2 : x.f1 < e'
          · rw [if_pos c2]
            obtain ⟨t, ht, hn⟩ := go x.f1 c1
            exact ⟨t, ht, next_step hn (by omega) (fun q => by have := q3 q; omega) (fun _ => Int.le_refl _) (.inr (.inr rfl))⟩
          · rw [if_neg c2]
            obtain ⟨t, ht, hn⟩ := go e' q1
            exact ⟨t, ht, next_step hn (Int.le_refl _) q3 (fun _ => by omega) (.inl rfl)⟩
        · rw [if_neg c1]
          obtain ⟨t, ht, hn⟩ := go e' q1
          exact ⟨t, ht, next_step hn (Int.le_refl _) q3 (fun q => absurd q c1) (.inl rfl)⟩
    by_cases c1 : x.f0 > a
    · rw [if_pos c1]
      by_cases c2 : x.f0 < e
      · rw [decide_eq_true c2]
        exact half true x.f0 c1 (by omega) (fun _ => Int.le_refl _) (.inr rfl) (by simp)
      · rw [decide_eq_false c2]
        exact half false e ha (Int.le_refl _) (fun _ => by omega) (.inl rfl) (by simp)
    · rw [if_neg c1]
      exact half false e ha (Int.le_refl _) (fun q => absurd q c1) (.inl rfl) (by simp)
theorem next_is (k : Nat) (l : List S29) (a e : Int) (hl : l.length ≤ 60) (hk : 200 ≤ k) (ha : a < e) : ∃ t, paymasterref22_next.f k l a e = some t ∧ NextOk l a e t := by
  have := next_loop l a (by omega) l.length k 0 e (by omega) (by omega) (by omega) ha
  rwa [List.drop_zero] at this

/-- What the sweep keeps. -/
structure Swept (l out : List S29) (r a : Int) : Prop where
  can : Can out
  top : ∀ x, x ∈ out → x.f1 ≤ a
  mem : ∀ p, Mem p out ↔ 0 ≤ p ∧ p < a ∧ ¬ Mem p l
  sum : r + Len out = a
  low : 0 ≤ r
theorem swept_hit {l out : List S29} {r a t : Int} (h : Swept l out r a) (ha : 0 ≤ a) (hat : a < t) (hal : ∀ p, a ≤ p → p < t → (Mem p l ↔ Mem a l)) (hm : Mem a l) : Swept l out (r + (t - a)) t := by
  refine ⟨h.can, fun x hx => by have := h.top x hx; omega, fun p => ?_, by have := h.sum; omega, by have := h.low; omega⟩
  rw [h.mem]
  constructor
  · rintro ⟨k1, k2, k3⟩; exact ⟨k1, by omega, k3⟩
  · rintro ⟨k1, k2, k3⟩
    refine ⟨k1, ?_, k3⟩
    by_cases c : p < a
    · exact c
    · exact absurd ((hal p (by omega) k2).2 hm) k3
theorem swept_new {l out : List S29} {r a t : Int} (h : Swept l out r a) (ha : 0 ≤ a) (hat : a < t) (hal : ∀ p, a ≤ p → p < t → (Mem p l ↔ Mem a l)) (hm : ¬ Mem a l) (hn : ∀ x, x ∈ out → x.f1 < a) : Swept l (out ++ [⟨a, t⟩]) r t := by
  refine ⟨can_snoc.2 ⟨h.can, hat, hn⟩, fun x hx => ?_, fun p => ?_, ?_, h.low⟩
  · rcases List.mem_append.1 hx with hx | hx
    · have := h.top x hx; omega
    · obtain rfl := List.mem_singleton.1 hx; exact Int.le_refl _
  · rw [mem_append, mem_one, h.mem]
    show _ ∨ (a ≤ p ∧ p < t) ↔ _
    constructor
    · rintro (⟨k1, k2, k3⟩ | ⟨k1, k2⟩)
      · exact ⟨k1, by omega, k3⟩
      · exact ⟨by omega, k2, fun hh => hm ((hal p k1 k2).1 hh)⟩
    · rintro ⟨k1, k2, k3⟩
      by_cases c : p < a
      · exact .inl ⟨k1, c, k3⟩
      · exact .inr ⟨by omega, k2⟩
  · rw [len_append]; have := h.sum; show r + (Len out + (t - a + 0)) = t; omega
theorem swept_on {l out : List S29} {z : S29} {r a t : Int} (h : Swept l (out ++ [z]) r a) (ha : 0 ≤ a) (hat : a < t) (hal : ∀ p, a ≤ p → p < t → (Mem p l ↔ Mem a l)) (hm : ¬ Mem a l) (hz : z.f1 = a) : Swept l (out ++ [⟨z.f0, t⟩]) r t := by
  obtain ⟨c1, c2, c3⟩ := can_snoc.1 h.can
  refine ⟨can_snoc.2 ⟨c1, by show z.f0 < t; omega, c3⟩, fun x hx => ?_, fun p => ?_, ?_, h.low⟩
  · rcases List.mem_append.1 hx with hx | hx
    · have := h.top x (List.mem_append.2 (.inl hx)); omega
    · obtain rfl := List.mem_singleton.1 hx; exact Int.le_refl _
  · have hq := h.mem p
    rw [mem_append, mem_one] at hq ⊢
    show _ ∨ (z.f0 ≤ p ∧ p < t) ↔ _
    constructor
    · rintro (k | ⟨k1, k2⟩)
      · have := hq.1 (.inl k); exact ⟨this.1, by omega, this.2.2⟩
      · by_cases c : p < a
        · have := hq.1 (.inr ⟨k1, by omega⟩); exact ⟨this.1, k2, this.2.2⟩
        · exact ⟨by omega, k2, fun hh => hm ((hal p (by omega) k2).1 hh)⟩
    · rintro ⟨k1, k2, k3⟩
      by_cases c : p < a
      · rcases hq.2 ⟨k1, c, k3⟩ with q | q
        · exact .inl q
        · exact .inr ⟨q.1, k2⟩
      · exact .inr ⟨by omega, k2⟩
  · have := h.sum
    rw [len_append] at this ⊢
    have e1 : Len [z] = z.f1 - z.f0 + 0 := rfl
    show r + (Len out + (t - z.f0 + 0)) = t
    omega
theorem snoc_cases (l : List S29) : l = [] ∨ ∃ i z, l = i ++ [z] := by
  rcases List.eq_nil_or_concat l with h | ⟨i, z, h⟩
  · exact .inl h
  · exact .inr ⟨i, z, by rw [h, List.concat_eq_append]⟩
theorem sweep (l : List S29) (E : Int) (hl : l.length ≤ 60) (hE : E ≤ 9223372036854775808) : ∀ (d k : Nat) (out : List S29) (r a : Int), (a < E → bc a l < d) → d + 300 ≤ k → out.length + d ≤ 1000 → 0 ≤ a → a ≤ E → Swept l out r a →
    ∃ G, paymasterref22_Gaps.l1 k l E out r a = some (G, E - Len G, 0) ∧ Swept l G (E - Len G) E ∧ G.length ≤ 1000 := by
  intro d
  induction d with
  | zero =>
    intro k out r a hd hk ho ha haE hs
    obtain ⟨k, rfl⟩ : ∃ m, k = m + 1 := ⟨k - 1, by omega⟩
    have e : a = E := by
      apply Classical.byContradiction; intro hc
      exact absurd (hd (by omega)) (by omega)
    subst e
    have := hs.sum
    obtain rfl : r = a - Len out := by omega
    exact ⟨out, by rw [paymasterref22_Gaps.l1, if_neg (by omega)], hs, by omega⟩
  | succ d ih =>
    intro k out r a hd hk ho ha haE hs
    obtain ⟨k, rfl⟩ : ∃ m, k = m + 1 := ⟨k - 1, by omega⟩
    have hsum := hs.sum
    by_cases c : a < E
    · obtain ⟨t, ht, n1, n2, n3, n4⟩ := next_is k l a E hl (by omega) c
      have hal := fun p => alike n3 p
      have hd' : t < E → bc t l < d := fun q => by
        rcases n4 with n4 | n4
        · omega
        · have := bc_lt n1 l n4
          have := hd c
          omega
      have hlow := hs.low
      have hlen := len_nonneg out hs.can.1
      rw [paymasterref22_Gaps.l1, if_pos c, ht]
      simp only [Option.bind_some]
      rw [rhits_is k a l hl (by omega)]
      simp only [Option.bind_some]
      by_cases hm : Mem a l
      · have hp := (cnt_pos a l).2 hm
        rw [if_pos (by omega), g_wrap_small (n := r + t) (by omega) (by omega), g_wrap_small (by omega) (by omega)]
        have e : r + t - a = r + (t - a) := by omega
        rw [e]
        exact ih k out _ t hd' (by omega) (by omega) (by omega) n2 (swept_hit hs ha n1 hal hm)
      · have hp : ¬ 0 < cnt a l := fun h => hm ((cnt_pos a l).1 h)
        rw [if_neg (by omega)]
        rcases snoc_cases out with rfl | ⟨i, z, rfl⟩
        · rw [if_neg (by simp), if_pos (by simp)]
          exact ih k _ r t hd' (by omega) (by simp only [List.length_append, List.length_nil, List.length_cons] at ho ⊢; omega) (by omega) n2 (swept_new hs ha n1 hal hm (fun x hx => by cases hx))
        · have hlen2 : (i ++ [z]).length = i.length + 1 := by simp
          have ew : wrap64 (((i ++ [z]).length : Int) - 1) = (i.length : Int) := by rw [hlen2]; unfold wrap64; omega
          have ez : rd_T29 (i ++ [z]) (i.length : Int) = z := by rw [rd_at _ _ (by omega)]; simp
          rw [if_pos (by omega), ew, ez, if_pos (by omega), if_pos (by omega)]
          by_cases cz : z.f1 = a
          · have es : ∀ v : S29, (i ++ [z]).set i.length v = i ++ [v] := fun v => by rw [List.set_append_right _ _ (Nat.le_refl _)]; simp
            rw [if_pos cz, Int.toNat_natCast, es]
            exact ih k _ r t hd' (by omega) (by simp only [List.length_append, List.length_nil, List.length_cons] at ho ⊢; omega) (by omega) n2 (swept_on hs ha n1 hal hm cz)
          · rw [if_neg cz, if_pos (by omega)]
            refine ih k _ r t hd' (by omega) (by simp only [List.length_append, List.length_nil, List.length_cons] at ho ⊢; omega) (by omega) n2 (swept_new hs ha n1 hal hm (fun x hx => ?_))
            obtain ⟨c1, c2, c3⟩ := can_snoc.1 hs.can
            have hz := hs.top z (by simp)
            rcases List.mem_append.1 hx with hx | hx
            · have := c3 x hx; omega
            · obtain rfl := List.mem_singleton.1 hx; omega
    · have e : a = E := by omega
      subst e
      obtain rfl : r = a - Len out := by omega
      exact ⟨out, by rw [paymasterref22_Gaps.l1, if_neg c], hs, by omega⟩
theorem ref_good (h : Nat) (hh : h ≤ 63) (l : List S29) (hl : l.length ≤ 60) (hg : ∀ x, x ∈ l → Good ((2 ^ h : Nat) : Int) x) : ∀ (d k i : Nat), l.length - i = d → i ≤ l.length → 100 ≤ k →
    paymasterref22_Gaps.l0 (k + d + 1) (h : Int) l (i : Int) = paymasterref22_Gaps.l1 k l ((2 ^ h : Nat) : Int) [] 0 0 := by
  intro d
  induction d with
  | zero =>
    intro k i h1 h2 hk
    obtain rfl : i = l.length := by omega
    rw [paymasterref22_Gaps.l0, if_neg (by omega), g_two_is _ h hh (by omega)]
    rfl
  | succ d ih =>
    intro k i h1 h2 hk
    have hil : i < l.length := by omega
    obtain ⟨b, hb, hbg⟩ := rmay_is (k + (d + 1)) h hh (by omega) l[i]
    rw [paymasterref22_Gaps.l0, if_pos (by omega), if_pos (by omega), rd_at l i hil, hb]
    simp only [Option.bind_some]
    rw [if_pos (hbg.2 (hg _ (List.getElem_mem hil))), w_succ (by omega)]
    exact ih k (i + 1) (by omega) (by omega) hk
theorem ref_bad (h : Nat) (hh : h ≤ 63) (l : List S29) (hl : l.length ≤ 60) : ∀ (d k i : Nat), l.length - i = d → i ≤ l.length → d + 100 ≤ k → (¬ ∀ x, x ∈ l.drop i → Good ((2 ^ h : Nat) : Int) x) →
    paymasterref22_Gaps.l0 k (h : Int) l (i : Int) = some ([], 0, 200) := by
  intro d
  induction d with
  | zero =>
    intro k i h1 h2 hk hb
    obtain rfl : i = l.length := by omega
    exact absurd (fun x hx => by rw [List.drop_length] at hx; cases hx) hb
  | succ d ih =>
    intro k i h1 h2 hk hbad
    obtain ⟨k, rfl⟩ : ∃ m, k = m + 1 := ⟨k - 1, by omega⟩
    have hil : i < l.length := by omega
    obtain ⟨b, hb, hbg⟩ := rmay_is k h hh (by omega) l[i]
    rw [paymasterref22_Gaps.l0, if_pos (by omega), if_pos (by omega), rd_at l i hil, hb]
    simp only [Option.bind_some]
    rw [w_succ (by omega)]
    by_cases c : b = true
    · rw [if_pos c]
      refine ih k (i + 1) (by omega) (by omega) (by omega) fun hc => hbad fun x hx => ?_
      rw [List.drop_eq_getElem_cons hil] at hx
      rcases List.mem_cons.1 hx with rfl | hx
      · exact hbg.1 c
      · exact hc x hx
    · rw [if_neg c]

theorem g_same_from (l : List S29) (hl : l.length ≤ 100000) : ∀ (d k i : Nat), l.length - i = d → i ≤ l.length → d < k → paymasterref22_Same.l0 k l l (i : Int) = some true := by
  intro d
  induction d with
  | zero =>
    intro k i h1 h2 hk
    obtain ⟨k, rfl⟩ : ∃ m, k = m + 1 := ⟨k - 1, by omega⟩
    simp only [paymasterref22_Same.l0]; rw [if_neg (by omega)]
  | succ d ih =>
    intro k i h1 h2 hk
    obtain ⟨k, rfl⟩ : ∃ m, k = m + 1 := ⟨k - 1, by omega⟩
    simp only [paymasterref22_Same.l0]
    rw [if_pos (by omega), if_pos (by omega), if_pos (by omega), w_succ (by omega)]
    simp only [beq_self_eq_true, Bool.not_true, Bool.or_self, Bool.false_eq_true, if_false]
    exact ih k (i + 1) (by omega) (by omega) (by omega)
theorem g_same (k : Nat) (l : List S29) (hl : l.length ≤ 2000) (hk : 3000 ≤ k) : paymasterref22_Same.f k l l = some true := by
  unfold paymasterref22_Same.f
  rw [if_pos rfl]
  exact g_same_from l (by omega) l.length k 0 (by omega) (by omega) (by omega)

/-- What the law asks. -/
def DrawGaps.Pure : Prop := ∀ (a0 : Int) (l1 : List S29) (a2 : Int), (Lit.int .i64 a0).wf = true → (∀ x, x ∈ l1 → (Lit.int .u64 x.f0).wf = true ∧ (Lit.int .u64 x.f1).wf = true) → (Lit.int .u64 a2).wf = true → ∃ k, paymasterlaw22_DrawGaps.f k a0 l1 a2 = some true

/-- The three answers of the program and the reference, all in one. -/
theorem all_three (k : Nat) (a0 : Int) (l : List S29) (hl : l.length ≤ 60) (h0 : ∀ x, x ∈ l → 0 ≤ x.f0) (hk : 3000 ≤ k) :
    ∃ G n e, paymasterref22_Gaps.f k a0 l = some (G, n, e) ∧ draw_Gaps.f k a0 l = some (G, e) ∧ draw_Reach.f k a0 l = some (n, e) ∧ G.length ≤ 1000 := by
  by_cases c : 0 ≤ a0 ∧ a0 ≤ 63
  · obtain ⟨h, rfl⟩ := Int.eq_ofNat_of_zero_le c.1
    have hh : h ≤ 63 := by omega
    have hp := g_pow_nat h hh
    have e63 : decide ((h : Int) > 63) = false := decide_eq_false (by omega)
    obtain ⟨k, rfl⟩ : ∃ m, k = m + 1 := ⟨k - 1, by omega⟩
    by_cases hg : ∀ x, x ∈ l → Good ((2 ^ h : Nat) : Int) x
    · have hw := whole_good (k + 1) h hh l hl (by omega) hg
      obtain ⟨g1, g2, g3⟩ := spSort_good l hg
      generalize mall (spSort l) = M at hw g1 g2 g3
      have hM : ∀ x, x ∈ M → 0 ≤ x.f0 ∧ x.f1 ≤ ((2 ^ h : Nat) : Int) := fun x hx => by
        have hx1 := g1.1 x hx
        obtain ⟨y, hy, y1, y2⟩ := (g2 x.f0).1 ⟨x, hx, Int.le_refl _, hx1⟩
        obtain ⟨z, hz, z1, z2⟩ := (g2 (x.f1 - 1)).1 ⟨x, hx, by omega, by omega⟩
        have := h0 y hy
        have := (hg z hz).2
        omega
      obtain ⟨q1, q2, q3, q4, q5⟩ := gl_ok ((2 ^ h : Nat) : Int) M 0 g1 (fun x hx => (hM x hx).1) (fun x hx => (hM x hx).2) (by omega)
      have hGp : draw_Gaps.f (k + 1) (h : Int) l = some (gl 0 (M ++ [⟨((2 ^ h : Nat) : Int), 0⟩]), 0) := by
        rw [draw_Gaps.f, hw]
        simp only [Option.bind_some]
        rw [if_pos trivial, if_pos (by omega), if_pos (by omega), g_shl h hh]
        have := gaps_loop (M ++ [⟨((2 ^ h : Nat) : Int), 0⟩]) (by simp; omega) _ (k + 1) 0 [] 0 rfl (by omega) (by simp; omega) (by simp; omega)
        rw [List.drop_zero, List.nil_append] at this
        exact this
      have hRp : draw_Reach.f (k + 1) (h : Int) l = some (Len M, 0) := by
        rw [draw_Reach.f, hw]
        simp only [Option.bind_some]
        have hn := len_nonneg _ q1.1
        have := reach_loop M 0 (by omega) g1.1 _ (k + 1) 0 0 rfl (by omega) (by omega) (by omega) (by rw [List.drop_zero]; omega)
        rw [List.drop_zero, Int.zero_add] at this
        exact this
      obtain ⟨G, s1, s2, s3⟩ := sweep l ((2 ^ h : Nat) : Int) hl (by omega) 200 (k - l.length - 1) [] 0 0 (fun _ => by have := bc_le 0 l; omega) (by omega) (by simp) (by omega) (by omega)
        ⟨can_nil, (fun x hx => by cases hx), fun p => ⟨fun h => absurd h (mem_nil p), fun h => by omega⟩, rfl, Int.le_refl _⟩
      have hR : paymasterref22_Gaps.f (k + 1) (h : Int) l = some (G, ((2 ^ h : Nat) : Int) - Len G, 0) := by
        rw [paymasterref22_Gaps.f, if_neg (by omega), e63, paymasterref22_Gaps.j0, if_neg (by simp), if_neg (by omega)]
        have := ref_good h hh l hl hg l.length (k - l.length - 1) 0 (by omega) (by omega) (by omega)
        rw [show k - l.length - 1 + l.length + 1 = k by omega] at this
        rw [Int.natCast_zero] at this
        rw [this, s1]
      have eG : gl 0 (M ++ [⟨((2 ^ h : Nat) : Int), 0⟩]) = G := can_unique _ _ q1 s2.can fun p => by rw [q3, s2.mem, g2]
      rw [eG] at hGp q4
      have eL : ((2 ^ h : Nat) : Int) - Len G = Len M := by omega
      rw [eL] at hR
      exact ⟨G, Len M, 0, hR, hGp, hRp, s3⟩
    · have hw := whole_bad (k + 1) h hh l hl hg
      refine ⟨[], 0, 200, ?_, ?_, ?_, by simp⟩
      · rw [paymasterref22_Gaps.f, if_neg (by omega), e63, paymasterref22_Gaps.j0, if_neg (by simp), if_neg (by omega)]
        exact ref_bad h hh l hl l.length k 0 (by omega) (by omega) (by omega) (by rw [List.drop_zero]; exact hg)
      · rw [draw_Gaps.f, hw]; rfl
      · rw [draw_Reach.f, hw]; simp only [Option.bind_some]; rw [draw_Reach.l0]; rfl
  · have hw : draw_whole.f k a0 l = some ([], 120) := by rw [draw_whole.f, if_neg c]
    obtain ⟨k, rfl⟩ : ∃ m, k = m + 1 := ⟨k - 1, by omega⟩
    refine ⟨[], 0, 120, ?_, ?_, ?_, by simp⟩
    · rw [paymasterref22_Gaps.f]
      by_cases c0 : a0 < 0
      · rw [if_pos c0, paymasterref22_Gaps.j0, if_pos rfl]
      · have : decide (a0 > 63) = true := decide_eq_true (by omega)
        rw [if_neg c0, this, paymasterref22_Gaps.j0, if_pos rfl]
    · rw [draw_Gaps.f, hw]; rfl
    · rw [draw_Reach.f, hw]; simp only [Option.bind_some]; rw [draw_Reach.l0]; rfl

theorem DrawGaps : DrawGaps.Pure := by
  intro a0 l a2 _ hw _
  obtain ⟨K, hK⟩ : ∃ K : Nat, 3000 ≤ K := ⟨3000, Nat.le_refl _⟩
  refine ⟨K, ?_⟩
  unfold paymasterlaw22_DrawGaps.f
  by_cases hl : l.length ≤ 60
  · rw [if_neg (by omega)]
    simp only [Option.bind_some, List.nil_append, List.length_nil]
    rw [if_pos (by omega)]
    obtain ⟨G, n, e, h1, h2, h3, h4⟩ := all_three K a0 l hl (fun x hx => (g_u64_bd (hw x hx).1).1) hK
    rw [h1, h2, h3]
    simp only [Option.bind_some]
    rw [g_same K G (by omega) hK, hits_is K a2 l hl (by omega), rhits_is K a2 l hl (by omega), g_same K l (by omega) hK]
    simp
  · rw [if_pos (by omega)]
end Go.Proofs.Ytaeaacdjiijooaa.Pr
