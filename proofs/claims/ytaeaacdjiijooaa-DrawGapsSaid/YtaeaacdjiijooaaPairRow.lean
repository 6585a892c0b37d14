/- An argument that is a slice of spans, opened as a list; the law's walk. -/
import Derived.Test.YtaeaacdjiijooaaPureDrawGaps
import Derived.Deep.SlicePairs
import Derived.SizedLaws
namespace Go.Proofs.Ytaeaacdjiijooaa.Pr
open Go.RowKit Go.Proofs.YtaeaacdjiijooaaW.PrintWords Go.Proofs.YtaeaacdjiijooaaW.PrintLast Go.Proofs.YtaeaacdjiijooaaW.PrintMore Go.ChangeShapes Go.WideShapes
def PairRow (W : World) (a : Option Addr) (len cap : Nat) (zs : List S29) : Prop :=
  zs.length = len ∧ len ≤ cap ∧ Kd.C k29 W a len zs ∧ ∀ x, x ∈ zs → (Lit.int .u64 x.f0).wf = true ∧ (Lit.int .u64 x.f1).wf = true
set_option maxRecDepth 100000 in
theorem pair_row {H : Type} {enc : TypeId × Value → H} {W : World} {base : Nat} {spare : Nat → Bool} {held : Bool} {fuel : Nat} {a : Option Addr} {len cap : Nat} {d : DataW H × List MemPlace}
    (hf : DataW.trod enc Try.prog W base spare held fuel 36 (Value.slice a len cap).cells.toList = some d) : ∃ zs, PairRow W a len cap zs := by
  rcases Go.Deep.open_slice_pairs Try.underlying36 Try.underlying29 (by kernel_rfl) rfl rfl (by kernel_rfl) (by kernel_rfl) hf with ⟨hcs, _⟩ | ⟨x, l, c, m, n, V0, V1, D0, D1, P0, P1, hcs, hb, hl, hm, hmm, _, hcell⟩
  · simp [Value.cells] at hcs
    obtain ⟨rfl, rfl, rfl⟩ := hcs
    exact ⟨[], rfl, Nat.le_refl _, ⟨rfl, by decide, fun h => absurd h (by decide)⟩, fun x hx => by cases hx⟩
  · simp [Value.cells] at hcs
    obtain ⟨rfl, rfl, rfl⟩ := hcs
    have hlm : len ≤ m := by rw [hmm]; split <;> omega
    have each : ∀ i, i < len → ∃ q : S29, W.cell? (x.add (i * 2)) = some (.int .u64 q.f0) ∧ W.cell? (x.add (i * 2 + 1)) = some (.int .u64 q.f1) ∧ (Lit.int .u64 q.f0).wf = true ∧ (Lit.int .u64 q.f1).wf = true := by
      intro i hi
      obtain ⟨h0, h1, r0, r1⟩ := hcell i (by omega)
      obtain ⟨n0, e0, _, w0⟩ := DataW.trod_int Try.underlying22 r0
      obtain ⟨n1, e1, _, w1⟩ := DataW.trod_int Try.underlying22 r1
      simp only [List.cons.injEq, and_true] at e0 e1
      exact ⟨⟨n0, n1⟩, by rw [h0, e0], by rw [h1, e1], w0, w1⟩
    obtain ⟨q, hq⟩ := Go.Deep.choose_lt each
    refine ⟨(List.range len).map q, by simp, hl, ⟨by simp, by simp only [maxLen] at hm; omega, fun _ => ⟨x, rfl, fun j p hp => ⟨[.int .u64 p.f0, .int .u64 p.f1], rfl, k29_mk W p, fun i u hu => ?_⟩⟩⟩, fun y hy => ?_⟩
    · rw [List.getElem?_map] at hp
      obtain ⟨j', hj', rfl⟩ := Option.map_eq_some_iff.1 hp
      obtain ⟨hj, rfl⟩ := List.getElem?_eq_some_iff.1 hj'
      rw [List.length_range] at hj
      simp only [List.getElem_range] at hu ⊢
      obtain ⟨k0, k1, _, _⟩ := hq j hj
      show W.cell? (x.add (j * 2 + i)) = some u
      match i, hu with
      | 0, hu => simp only [List.getElem?_cons_zero, Option.some.injEq] at hu; rw [← hu]; exact k0
      | 1, hu => simp only [List.getElem?_cons_succ, List.getElem?_cons_zero, Option.some.injEq] at hu; rw [← hu]; exact k1
      | i + 2, hu => simp at hu
    · obtain ⟨j, hj, rfl⟩ := List.mem_map.1 hy
      obtain ⟨_, _, k2, k3⟩ := hq j (List.mem_range.1 hj)
      exact ⟨k2, k3⟩
theorem DrawGaps.walk (P : DrawGaps.Pure) (a0 : Int) (a1 : Option Addr) (len1 cap1 : Nat) (z1 : List S29) (a2 : Int) (w : World) (w0 : (Lit.int .i64 a0).wf = true) (w1 : PairRow w a1 len1 cap1 z1) (w2 : (Lit.int .u64 a2).wf = true) :
    Calls Try.prog 6 #[.int .i64 a0, .slice a1 len1 cap1, .int .u64 a2] w fun e w' => e = .returned (.bool true) ∧ Below w.heap.size w w' := by
  obtain ⟨rfl, hc, hr, hw⟩ := w1
  obtain ⟨k, h⟩ := P a0 z1 a2 w0 hw w2
  refine (paymasterlaw22_DrawGaps.calls k a0 _ _ z1 a2 true w hr hc h).mono ?_
  rintro e w' ⟨rfl, hd⟩
  exact ⟨rfl, hd⟩
end Go.Proofs.Ytaeaacdjiijooaa.Pr
