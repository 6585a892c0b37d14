/- Spans: what they hold (Mem), when a row of them is the only one that holds it (Can), how they are put together, what is between them. Plain Lean. -/
import Derived.Test.YtaeaacdjiijooaaWhole
namespace Go.Proofs.Ytaeaacdjiijooaa.Pr
open Go.RowKit Go.Proofs.YtaeaacdjiijooaaW.PrintWords Go.Proofs.YtaeaacdjiijooaaW.PrintLast Go.Proofs.YtaeaacdjiijooaaW.PrintMore
set_option linter.unusedVariables false

def Mem (p : Int) (L : List S29) : Prop := ∃ x, x ∈ L ∧ x.f0 ≤ p ∧ p < x.f1
def Can (L : List S29) : Prop := (∀ x, x ∈ L → x.f0 < x.f1) ∧ L.Pairwise (fun x y => x.f1 < y.f0)
theorem mem_nil (p : Int) : ¬ Mem p [] := by rintro ⟨x, hx, _⟩; cases hx
theorem mem_cons (p : Int) (x : S29) (L : List S29) : Mem p (x :: L) ↔ (x.f0 ≤ p ∧ p < x.f1) ∨ Mem p L := by
  constructor
  · rintro ⟨z, hz, h⟩
    rcases List.mem_cons.1 hz with rfl | hz
    · exact .inl h
    · exact .inr ⟨z, hz, h⟩
  · rintro (h | ⟨z, hz, h⟩)
    · exact ⟨x, List.mem_cons_self .., h⟩
    · exact ⟨z, List.mem_cons_of_mem _ hz, h⟩
theorem mem_append (p : Int) (A B : List S29) : Mem p (A ++ B) ↔ Mem p A ∨ Mem p B := by
  constructor
  · rintro ⟨z, hz, h⟩
    rcases List.mem_append.1 hz with hz | hz
    · exact .inl ⟨z, hz, h⟩
    · exact .inr ⟨z, hz, h⟩
  · rintro (⟨z, hz, h⟩ | ⟨z, hz, h⟩)
    · exact ⟨z, List.mem_append.2 (.inl hz), h⟩
    · exact ⟨z, List.mem_append.2 (.inr hz), h⟩
theorem mem_one (p : Int) (x : S29) : Mem p [x] ↔ x.f0 ≤ p ∧ p < x.f1 := by
  rw [mem_cons]; exact ⟨fun h => h.elim id fun h => absurd h (mem_nil p), .inl⟩
theorem can_nil : Can [] := ⟨(fun x hx => by cases hx), List.Pairwise.nil⟩
theorem can_cons {x : S29} {L : List S29} (h : Can (x :: L)) : x.f0 < x.f1 ∧ (∀ y, y ∈ L → x.f1 < y.f0) ∧ Can L :=
  ⟨h.1 x (List.mem_cons_self ..), (List.pairwise_cons.1 h.2).1, fun y hy => h.1 y (List.mem_cons_of_mem _ hy), (List.pairwise_cons.1 h.2).2⟩
theorem can_mk {x : S29} {L : List S29} (h0 : x.f0 < x.f1) (h1 : ∀ y, y ∈ L → x.f1 < y.f0) (h : Can L) : Can (x :: L) :=
  ⟨fun y hy => by
    rcases List.mem_cons.1 hy with rfl | hy
    · exact h0
    · exact h.1 y hy, List.pairwise_cons.2 ⟨h1, h.2⟩⟩
theorem can_snoc {L : List S29} {z : S29} : Can (L ++ [z]) ↔ Can L ∧ z.f0 < z.f1 ∧ ∀ x, x ∈ L → x.f1 < z.f0 := by
  constructor
  · intro h
    refine ⟨⟨fun x hx => h.1 x (List.mem_append.2 (.inl hx)), (List.pairwise_append.1 h.2).1⟩, h.1 z (by simp), fun x hx => (List.pairwise_append.1 h.2).2.2 x hx z (by simp)⟩
  · rintro ⟨h1, h2, h3⟩
    refine ⟨fun x hx => ?_, List.pairwise_append.2 ⟨h1.2, by simp, fun x hx y hy => ?_⟩⟩
    · rcases List.mem_append.1 hx with hx | hx
      · exact h1.1 x hx
      · obtain rfl := List.mem_singleton.1 hx; exact h2
    · obtain rfl := List.mem_singleton.1 hy; exact h3 x hx

theorem can_unique : ∀ (L M : List S29), Can L → Can M → (∀ p, Mem p L ↔ Mem p M) → L = M
  | [], [], _, _, _ => rfl
  | [], y :: ys, _, hM, h => absurd ((h y.f0).2 ⟨y, List.mem_cons_self .., Int.le_refl _, (can_cons hM).1⟩) (mem_nil _)
  | x :: xs, [], hL, _, h => absurd ((h x.f0).1 ⟨x, List.mem_cons_self .., Int.le_refl _, (can_cons hL).1⟩) (mem_nil _)
  | x :: xs, y :: ys, hL, hM, h => by
    obtain ⟨lx, px, cx⟩ := can_cons hL
    obtain ⟨ly, py, cy⟩ := can_cons hM
    have gx : ∀ p, Mem p (x :: xs) → x.f0 ≤ p := by
      rintro p ⟨z, hz, h1, h2⟩
      rcases List.mem_cons.1 hz with rfl | hz
      · exact h1
      · have := px z hz; omega
    have gy : ∀ p, Mem p (y :: ys) → y.f0 ≤ p := by
      rintro p ⟨z, hz, h1, h2⟩
      rcases List.mem_cons.1 hz with rfl | hz
      · exact h1
      · have := py z hz; omega
    have e0 : x.f0 = y.f0 := by
      have a := gy x.f0 ((h _).1 ⟨x, List.mem_cons_self .., Int.le_refl _, lx⟩)
      have b := gx y.f0 ((h _).2 ⟨y, List.mem_cons_self .., Int.le_refl _, ly⟩)
      omega
    have nx : ¬ Mem x.f1 (x :: xs) := by
      rintro ⟨z, hz, h1, h2⟩
      rcases List.mem_cons.1 hz with rfl | hz
      · omega
      · have := px z hz; omega
    have ny : ¬ Mem y.f1 (y :: ys) := by
      rintro ⟨z, hz, h1, h2⟩
      rcases List.mem_cons.1 hz with rfl | hz
      · omega
      · have := py z hz; omega
    have e1 : x.f1 = y.f1 := by
      rcases Int.lt_trichotomy x.f1 y.f1 with c | c | c
      · exact absurd ((h x.f1).2 ⟨y, List.mem_cons_self .., by omega, c⟩) nx
      · exact c
      · exact absurd ((h y.f1).1 ⟨x, List.mem_cons_self .., by omega, c⟩) ny
    have e : x = y := by
      cases x; cases y; simp only at e0 e1; rw [e0, e1]
    subst e
    have tl : ∀ p, Mem p xs ↔ Mem p ys := fun p => by
      constructor
      · rintro ⟨z, hz, h1, h2⟩
        rcases (mem_cons p x ys).1 ((h p).1 ⟨z, List.mem_cons_of_mem _ hz, h1, h2⟩) with hc | hc
        · have := px z hz; omega
        · exact hc
      · rintro ⟨z, hz, h1, h2⟩
        rcases (mem_cons p x xs).1 ((h p).2 ⟨z, List.mem_cons_of_mem _ hz, h1, h2⟩) with hc | hc
        · have := py z hz; omega
        · exact hc
    rw [can_unique xs ys cx cy tl]

/-- How many positions. -/
def Len : List S29 → Int
  | [] => 0
  | x :: xs => (x.f1 - x.f0) + Len xs
theorem len_append (A B : List S29) : Len (A ++ B) = Len A + Len B := by
  induction A with
  | nil => simp [Len]
  | cons x xs ih => rw [List.cons_append, Len, ih, Len]; omega
theorem len_nonneg (A : List S29) (h : ∀ x, x ∈ A → x.f0 < x.f1) : 0 ≤ Len A := by
  induction A with
  | nil => simp [Len]
  | cons x xs ih =>
    have := ih fun y hy => h y (List.mem_cons_of_mem _ hy)
    have := h x (List.mem_cons_self ..)
    rw [Len]; omega

/-! ### putting them together -/
def mrest : List S29 → S29 → List S29 → List S29
  | init, z, [] => init ++ [z]
  | init, z, s :: r => if s.f0 ≤ z.f1 then mrest init ⟨z.f0, mx z.f1 s.f1⟩ r else mrest (init ++ [z]) s r
def mall : List S29 → List S29
  | [] => []
  | s :: r => mrest [] s r
theorem mx_is (a b : Int) : mx a b = max a b := by unfold mx; omega
theorem mrest_length : ∀ (r init : List S29) (z : S29), (mrest init z r).length ≤ init.length + 1 + r.length
  | [], init, z => by simp [mrest]
  | s :: r, init, z => by
    rw [mrest]
    split
    · have := mrest_length r init ⟨z.f0, mx z.f1 s.f1⟩; simp only [List.length_cons]; omega
    · have := mrest_length r (init ++ [z]) s; simp only [List.length_append, List.length_cons, List.length_nil] at this ⊢; omega
theorem mrest_ok : ∀ (r init : List S29) (z : S29), Can (init ++ [z]) → (∀ s, s ∈ r → z.f0 ≤ s.f0) → r.Pairwise (fun x y => x.f0 ≤ y.f0) → (∀ s, s ∈ r → s.f0 < s.f1) →
    Can (mrest init z r) ∧ ∀ p, Mem p (mrest init z r) ↔ Mem p (init ++ [z]) ∨ Mem p r
  | [], init, z, hc, _, _, _ => ⟨hc, fun p => ⟨.inl, fun h => h.elim id fun h => absurd h (mem_nil p)⟩⟩
  | s :: r, init, z, hc, hz, hs, hp => by
    obtain ⟨c1, c2, c3⟩ := can_snoc.1 hc
    have h0 := hz s (List.mem_cons_self ..)
    have h1 := hp s (List.mem_cons_self ..)
    obtain ⟨hs1, hs2⟩ := List.pairwise_cons.1 hs
    have hp2 : ∀ y, y ∈ r → y.f0 < y.f1 := fun y hy => hp y (List.mem_cons_of_mem _ hy)
    rw [mrest]
    by_cases c : s.f0 ≤ z.f1
    · rw [if_pos c]
      have hm := mx_is z.f1 s.f1
      obtain ⟨g1, g2⟩ := mrest_ok r init ⟨z.f0, mx z.f1 s.f1⟩ (can_snoc.2 ⟨c1, by show z.f0 < mx z.f1 s.f1; omega, c3⟩) (fun y hy => Int.le_trans h0 (hs1 y hy)) hs2 hp2
      refine ⟨g1, fun p => ?_⟩
      rw [g2, mem_append, mem_append, mem_one, mem_one, mem_cons]
      have e : (z.f0 ≤ p ∧ p < mx z.f1 s.f1) ↔ (z.f0 ≤ p ∧ p < z.f1) ∨ (s.f0 ≤ p ∧ p < s.f1) := by omega
      show (_ ∨ (z.f0 ≤ p ∧ p < mx z.f1 s.f1)) ∨ _ ↔ _
      rw [e]
      constructor
      · rintro ((a | a | a) | a)
        · exact .inl (.inl a)
        · exact .inl (.inr a)
        · exact .inr (.inl a)
        · exact .inr (.inr a)
      · rintro ((a | a) | a | a)
        · exact .inl (.inl a)
        · exact .inl (.inr (.inl a))
        · exact .inl (.inr (.inr a))
        · exact .inr a
    · rw [if_neg c]
      obtain ⟨g1, g2⟩ := mrest_ok r (init ++ [z]) s (can_snoc.2 ⟨hc, h1, fun x hx => by
        rcases List.mem_append.1 hx with hx | hx
        · have := c3 x hx; omega
        · obtain rfl := List.mem_singleton.1 hx; omega⟩) hs1 hs2 hp2
      refine ⟨g1, fun p => ?_⟩
      rw [g2, mem_append p (init ++ [z]) [s], mem_one, mem_cons, or_assoc]
theorem mall_ok (l : List S29) (hs : l.Pairwise (fun x y => x.f0 ≤ y.f0)) (hp : ∀ s, s ∈ l → s.f0 < s.f1) : Can (mall l) ∧ (∀ p, Mem p (mall l) ↔ Mem p l) ∧ (mall l).length ≤ l.length := by
  cases l with
  | nil => exact ⟨can_nil, fun p => Iff.rfl, Nat.le_refl _⟩
  | cons s r =>
    obtain ⟨hs1, hs2⟩ := List.pairwise_cons.1 hs
    obtain ⟨g1, g2⟩ := mrest_ok r [] s (can_mk (hp s (List.mem_cons_self ..)) (fun y hy => by cases hy) can_nil) hs1 hs2 (fun y hy => hp y (List.mem_cons_of_mem _ hy))
    refine ⟨g1, fun p => ?_, ?_⟩
    · show Mem p (mrest [] s r) ↔ _
      rw [g2, List.nil_append, mem_one, mem_cons]
    · have := mrest_length r [] s
      show (mrest [] s r).length ≤ _
      simp only [List.length_nil, List.length_cons] at this ⊢; omega

/-! ### what is between them -/
def gl : Int → List S29 → List S29
  | _, [] => []
  | a, x :: r => if x.f0 > a then ⟨a, x.f0⟩ :: gl x.f1 r else gl x.f1 r
theorem gl_ok (E : Int) : ∀ (M : List S29) (a : Int), Can M → (∀ x, x ∈ M → a ≤ x.f0) → (∀ x, x ∈ M → x.f1 ≤ E) → a ≤ E →
    Can (gl a (M ++ [⟨E, 0⟩])) ∧ (∀ x, x ∈ gl a (M ++ [⟨E, 0⟩]) → a ≤ x.f0) ∧ (∀ p, Mem p (gl a (M ++ [⟨E, 0⟩])) ↔ a ≤ p ∧ p < E ∧ ¬ Mem p M) ∧ Len (gl a (M ++ [⟨E, 0⟩])) + Len M = E - a ∧ (gl a (M ++ [⟨E, 0⟩])).length ≤ M.length + 1
  | [], a, _, _, _, hE => by
    rw [List.nil_append, gl]
    by_cases c : E > a
    · rw [if_pos c, gl]
      refine ⟨can_mk c (fun y hy => by cases hy) can_nil, fun x hx => ?_, fun p => ?_, by simp [Len], by simp⟩
      · obtain rfl := List.mem_singleton.1 hx; exact Int.le_refl _
      · rw [mem_one]; exact ⟨fun h => ⟨h.1, h.2, mem_nil p⟩, fun h => ⟨h.1, h.2.1⟩⟩
    · rw [if_neg c, gl]
      refine ⟨can_nil, (fun x hx => by cases hx), fun p => ⟨fun h => absurd h (mem_nil p), fun h => by omega⟩, by simp [Len]; omega, by simp⟩
  | x :: r, a, hc, ha, hb, hE => by
    obtain ⟨c1, c2, c3⟩ := can_cons hc
    have h0 := ha x (List.mem_cons_self ..)
    have h1 := hb x (List.mem_cons_self ..)
    obtain ⟨g1, g2, g3, g4, g5⟩ := gl_ok E r x.f1 c3 (fun y hy => Int.le_of_lt (c2 y hy)) (fun y hy => hb y (List.mem_cons_of_mem _ hy)) h1
    have hr : ∀ p, Mem p r → x.f1 < p := by
      rintro p ⟨z, hz, k1, k2⟩
      have := c2 z hz; omega
    rw [List.cons_append, gl]
    by_cases c : x.f0 > a
    · rw [if_pos c]
      refine ⟨can_mk c (fun y hy => by have := g2 y hy; show x.f0 < y.f0; omega) g1, fun y hy => ?_, fun p => ?_, ?_, by simp only [List.length_cons]; omega⟩
      · rcases List.mem_cons.1 hy with rfl | hy
        · exact Int.le_refl _
        · have := g2 y hy; omega
      · rw [mem_cons, mem_cons, g3]
        show (a ≤ p ∧ p < x.f0) ∨ _ ↔ _
        have := hr p
        constructor
        · rintro (h | ⟨k1, k2, k3⟩)
          · refine ⟨h.1, by omega, fun hh => ?_⟩
            rcases hh with hh | hh
            · omega
            · have := this hh; omega
          · refine ⟨by omega, k2, fun hh => ?_⟩
            rcases hh with hh | hh
            · omega
            · exact k3 hh
        · rintro ⟨k1, k2, k3⟩
          by_cases q : p < x.f0
          · exact .inl ⟨k1, q⟩
          · refine .inr ⟨?_, k2, fun hh => k3 (.inr hh)⟩
            by_cases q2 : p < x.f1
            · exact absurd (.inl ⟨by omega, q2⟩) k3
            · omega
      · rw [Len, Len]; show (x.f0 - a) + _ + _ = _; omega
    · rw [if_neg c]
      refine ⟨g1, fun y hy => by have := g2 y hy; omega, fun p => ?_, ?_, by simp only [List.length_cons]; omega⟩
      · rw [mem_cons, g3]
        have := hr p
        constructor
        · rintro ⟨k1, k2, k3⟩
          refine ⟨by omega, k2, fun hh => ?_⟩
          rcases hh with hh | hh
          · omega
          · exact k3 hh
        · rintro ⟨k1, k2, k3⟩
          refine ⟨?_, k2, fun hh => k3 (.inr hh)⟩
          by_cases q2 : p < x.f1
          · exact absurd (.inl ⟨by omega, q2⟩) k3
          · omega
      · rw [Len]; omega

/-! ### from place to place -/
def bc (a : Int) : List S29 → Nat
  | [] => 0
  | x :: r => (if a < x.f0 then 1 else 0) + (if a < x.f1 then 1 else 0) + bc a r
theorem bc_le (a : Int) : ∀ l : List S29, bc a l ≤ 2 * l.length
  | [] => by simp [bc]
  | x :: r => by
    have := bc_le a r
    rw [bc, List.length_cons]
    split <;> split <;> omega
theorem bc_mono {a t : Int} (h : a ≤ t) : ∀ l : List S29, bc t l ≤ bc a l
  | [] => Nat.le_refl _
  | x :: r => by
    have := bc_mono h r
    rw [bc, bc]
    split <;> split <;> split <;> split <;> omega
theorem bc_lt {a t : Int} (h : a < t) : ∀ l : List S29, (∃ x, x ∈ l ∧ (x.f0 = t ∨ x.f1 = t)) → bc t l < bc a l
  | [], ⟨x, hx, _⟩ => by cases hx
  | x :: r, ⟨y, hy, e⟩ => by
    have hm := bc_mono (Int.le_of_lt h) r
    rw [bc, bc]
    rcases List.mem_cons.1 hy with rfl | hy
    · split <;> split <;> split <;> split <;> omega
    · have := bc_lt h r ⟨y, hy, e⟩
      split <;> split <;> split <;> split <;> omega
/-- Between two places, one behind the other, at which something begins or ends, all positions are alike. -/
theorem alike {l : List S29} {a t : Int} (h : ∀ x, x ∈ l → (a < x.f0 → t ≤ x.f0) ∧ (a < x.f1 → t ≤ x.f1)) (p : Int) (h1 : a ≤ p) (h2 : p < t) : Mem p l ↔ Mem a l := by
  constructor
  · rintro ⟨x, hx, k1, k2⟩
    obtain ⟨q1, q2⟩ := h x hx
    refine ⟨x, hx, ?_, by omega⟩
    by_cases c : a < x.f0
    · have := q1 c; omega
    · omega
  · rintro ⟨x, hx, k1, k2⟩
    obtain ⟨q1, q2⟩ := h x hx
    exact ⟨x, hx, by omega, by have := q2 k2; omega⟩
/-- How many hit a position. -/
def cnt (p : Int) : List S29 → Nat
  | [] => 0
  | x :: r => (if x.f0 ≤ p ∧ p < x.f1 then 1 else 0) + cnt p r
theorem cnt_le (p : Int) : ∀ l : List S29, cnt p l ≤ l.length
  | [] => Nat.le_refl _
  | x :: r => by
    have := cnt_le p r
    rw [cnt, List.length_cons]
    split <;> omega
theorem cnt_pos (p : Int) : ∀ l : List S29, 0 < cnt p l ↔ Mem p l
  | [] => ⟨fun h => absurd h (by simp [cnt]), fun h => absurd h (mem_nil p)⟩
  | x :: r => by
    rw [cnt, mem_cons, ← cnt_pos p r]
    split
    · next c => exact ⟨fun _ => .inl c, fun _ => by omega⟩
    · next c => exact ⟨fun h => .inr (by omega), fun h => h.elim (fun h => absurd h c) (fun h => by omega)⟩
end Go.Proofs.Ytaeaacdjiijooaa.Pr
