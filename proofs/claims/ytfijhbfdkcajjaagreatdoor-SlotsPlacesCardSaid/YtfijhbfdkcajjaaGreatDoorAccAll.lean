/- Accounts and rows as arguments; SlotsPlaces's walk and its answer. -/
import Derived.Test.YtfijhbfdkcajjaaGreatDoorBal
import Derived.Deep.SlicePairs
import Derived.SizedLaws
import Derived.Test.YtfijhbfdkcajjaaGreatDoorPrx33
import Derived.Test.YtfijhbfdkcajjaaGreatDoorPlainAll
/- An argument that is a slice of accounts, opened as a list. -/
namespace Go.Proofs.YtfijhbfdkcajjaaGreatDoor.Pr
open Go.RowKit Go.Proofs.YtfijhbfdkcajjaaGreatDoorW.PrintWords Go.Proofs.YtfijhbfdkcajjaaGreatDoorW.PrintLast Go.Proofs.YtfijhbfdkcajjaaGreatDoorW.PrintMore Go.ChangeShapes Go.WideShapes
set_option linter.unusedVariables false
def AccRow (W : World) (a : Option Addr) (len cap : Nat) (zs : List S41) : Prop :=
  zs.length = len ∧ len ≤ cap ∧ Kd.C k41 W a len zs ∧ ∀ x, x ∈ zs → (Lit.int .u64 x.f3).wf = true ∧ OkU x.f1
theorem okU_of {a b : Int} (h1 : (Lit.int .u64 a).wf = true) (h2 : (Lit.int .u64 b).wf = true) : OkU ⟨a, b⟩ := by
  simp [Lit.wf, IntKind.min, IntKind.max, IntKind.bits, IntKind.signed] at h1 h2
  exact ⟨⟨by show 0 ≤ a; omega, by show a < _; omega⟩, by show 0 ≤ b; omega, by show b < _; omega⟩
set_option maxRecDepth 100000 in
theorem acc_row {H : Type} {enc : TypeId × Value → H} {W : World} {base : Nat} {spare : Nat → Bool} {held : Bool} {fuel : Nat} {a : Option Addr} {len cap : Nat} {d : DataW H × List MemPlace}
    (hf : DataW.trod enc Tryz.prog W base spare held fuel 22 (Value.slice a len cap).cells.toList = some d) : ∃ zs, AccRow W a len cap zs := by
  rcases Go.Deep.open_slice Tryz.underlying22 hf with ⟨hcs, _⟩ | ⟨x, l, c, m, n, D, Pl, hcs, hb, hl, hm, hmm, _, hx⟩
  · simp [Value.cells] at hcs
    obtain ⟨rfl, rfl, rfl⟩ := hcs
    exact ⟨[], rfl, Nat.le_refl _, ⟨rfl, by decide, fun h => absurd h (by decide)⟩, fun x hx => by cases hx⟩
  · simp [Value.cells] at hcs
    obtain ⟨rfl, rfl, rfl⟩ := hcs
    have hlm : len ≤ m := by rw [hmm]; split <;> omega
    have c28 : Tryz.prog.cellsOf 41 = 5 := by kernel_rfl
    have c26 : Tryz.prog.cellsOf 39 = 2 := by kernel_rfl
    have c23 : Tryz.prog.cellsOf 37 = 1 := by kernel_rfl
    have c9 : Tryz.prog.cellsOf 9 = 1 := by kernel_rfl
    have each : ∀ i, i < len → ∃ q : S41, W.cell? (x.add (i * 5)) = some (.string q.f0) ∧ W.cell? (x.add (i * 5 + 1)) = some (.int .u64 q.f1.f0) ∧ W.cell? (x.add (i * 5 + 2)) = some (.int .u64 q.f1.f1) ∧ W.cell? (x.add (i * 5 + 3)) = some (.string q.f2) ∧ W.cell? (x.add (i * 5 + 4)) = some (.int .u64 q.f3) ∧ (Lit.int .u64 q.f3).wf = true ∧ OkU q.f1 := by
      intro i hi
      obtain ⟨cs', h1, h2⟩ := hx i (by omega)
      rw [c28] at h1
      obtain ⟨_, hlen, hcell⟩ := World.cells?_some h1
      obtain ⟨xs, k, hk, hxy, _, hxl, hf⟩ := DataW.trod_struct Tryz.underlying41 h2
      match cs', hlen with
      | [v0, v1, v2, v3, v4], _ =>
        have e0 := hcell 0 (by omega)
        have e1 := hcell 1 (by omega)
        have e2 := hcell 2 (by omega)
        have e3 := hcell 3 (by omega)
        have e4 := hcell 4 (by omega)
        rw [Go.Deep.add_add] at e0 e1 e2 e3 e4
        simp at e0 e1 e2 e3 e4
        have hl4 : xs.length = 4 := hxl
        have g0 : DataW.trod enc Tryz.prog W base spare held k 9 (([v0, v1, v2, v3, v4].drop 0).take (Tryz.prog.cellsOf 9)) = xs[0]? := hf 0 _ rfl
        have g1 : DataW.trod enc Tryz.prog W base spare held k 39 (([v0, v1, v2, v3, v4].drop 1).take (Tryz.prog.cellsOf 39)) = xs[1]? := hf 1 _ rfl
        have g2 : DataW.trod enc Tryz.prog W base spare held k 9 (([v0, v1, v2, v3, v4].drop 3).take (Tryz.prog.cellsOf 9)) = xs[2]? := hf 2 _ rfl
        have g3 : DataW.trod enc Tryz.prog W base spare held k 37 (([v0, v1, v2, v3, v4].drop 4).take (Tryz.prog.cellsOf 37)) = xs[3]? := hf 3 _ rfl
        rw [c9] at g0 g2
        rw [c26] at g1
        rw [c23] at g3
        rw [List.getElem?_eq_getElem (by omega)] at g0 g1 g2 g3
        obtain ⟨s0, q0, _, _⟩ := DataW.trod_string Tryz.underlying9 g0
        obtain ⟨ys, k2, hk2, _, _, hyl, hf2⟩ := DataW.trod_struct Tryz.underlying39 g1
        have hl2 : ys.length = 2 := hyl
        have p0 : DataW.trod enc Tryz.prog W base spare held k2 37 ((([v1, v2] : List Value).drop 0).take (Tryz.prog.cellsOf 37)) = ys[0]? := hf2 0 _ rfl
        have p1 : DataW.trod enc Tryz.prog W base spare held k2 37 ((([v1, v2] : List Value).drop 1).take (Tryz.prog.cellsOf 37)) = ys[1]? := hf2 1 _ rfl
        rw [c23] at p0 p1
        rw [List.getElem?_eq_getElem (by omega)] at p0 p1
        obtain ⟨n1, q1, _, w1⟩ := DataW.trod_int Tryz.underlying37 p0
        obtain ⟨n2, q2, _, w2⟩ := DataW.trod_int Tryz.underlying37 p1
        obtain ⟨s3, q3, _, _⟩ := DataW.trod_string Tryz.underlying9 g2
        obtain ⟨n4, q4, _, w4⟩ := DataW.trod_int Tryz.underlying37 g3
        simp at q0 q1 q2 q3 q4
        exact ⟨⟨s0, ⟨n1, n2⟩, s3, n4⟩, by rw [e0, q0], by rw [e1, q1], by rw [e2, q2], by rw [e3, q3], by rw [e4, q4], w4, okU_of w1 w2⟩
    haveI : Inhabited S41 := ⟨z41⟩
    obtain ⟨q, hq⟩ := Go.Deep.choose_lt each
    refine ⟨(List.range len).map q, by simp, hl, ⟨by simp, by simp only [maxLen] at hm; omega, fun _ => ⟨x, rfl, fun j p hp => ⟨[.string p.f0, .int .u64 p.f1.f0, .int .u64 p.f1.f1, .string p.f2, .int .u64 p.f3], rfl, k41_mk W p, fun i u hu => ?_⟩⟩⟩, fun y hy => ?_⟩
    · rw [List.getElem?_map] at hp
      obtain ⟨j', hj', rfl⟩ := Option.map_eq_some_iff.1 hp
      obtain ⟨hj, rfl⟩ := List.getElem?_eq_some_iff.1 hj'
      rw [List.length_range] at hj
      simp only [List.getElem_range] at hu ⊢
      obtain ⟨k0, k1, k2, k3, k4, _, _⟩ := hq j hj
      show W.cell? (x.add (j * 5 + i)) = some u
      match i, hu with
      | 0, hu => simp only [List.getElem?_cons_zero, Option.some.injEq] at hu; rw [← hu]; exact k0
      | 1, hu => simp only [List.getElem?_cons_succ, List.getElem?_cons_zero, Option.some.injEq] at hu; rw [← hu]; exact k1
      | 2, hu => simp only [List.getElem?_cons_succ, List.getElem?_cons_zero, Option.some.injEq] at hu; rw [← hu]; exact k2
      | 3, hu => simp only [List.getElem?_cons_succ, List.getElem?_cons_zero, Option.some.injEq] at hu; rw [← hu]; exact k3
      | 4, hu => simp only [List.getElem?_cons_succ, List.getElem?_cons_zero, Option.some.injEq] at hu; rw [← hu]; exact k4
      | i + 5, hu => simp at hu
    · obtain ⟨j, hj, rfl⟩ := List.mem_map.1 hy
      obtain ⟨_, _, _, _, _, k5, k6⟩ := hq j (List.mem_range.1 hj)
      exact ⟨k5, k6⟩
end Go.Proofs.YtfijhbfdkcajjaaGreatDoor.Pr

/- An argument that is a slice of rows, opened as a list. -/
namespace Go.Proofs.YtfijhbfdkcajjaaGreatDoor.Pr
open Go.RowKit Go.Proofs.YtfijhbfdkcajjaaGreatDoorW.PrintWords Go.Proofs.YtfijhbfdkcajjaaGreatDoorW.PrintLast Go.Proofs.YtfijhbfdkcajjaaGreatDoorW.PrintMore Go.ChangeShapes Go.WideShapes
set_option linter.unusedVariables false
def RowRow (W : World) (a : Option Addr) (len cap : Nat) (zs : List S45) : Prop :=
  zs.length = len ∧ len ≤ cap ∧ Kd.C k45 W a len zs ∧ ∀ x, x ∈ zs → OkU x.f1
set_option maxRecDepth 100000 in
theorem row_row {H : Type} {enc : TypeId × Value → H} {W : World} {base : Nat} {spare : Nat → Bool} {held : Bool} {fuel : Nat} {a : Option Addr} {len cap : Nat} {d : DataW H × List MemPlace}
    (hf : DataW.trod enc Tryz.prog W base spare held fuel 23 (Value.slice a len cap).cells.toList = some d) : ∃ zs, RowRow W a len cap zs := by
  rcases Go.Deep.open_slice Tryz.underlying23 hf with ⟨hcs, _⟩ | ⟨x, l, c, m, n, D, Pl, hcs, hb, hl, hm, hmm, _, hx⟩
  · simp [Value.cells] at hcs
    obtain ⟨rfl, rfl, rfl⟩ := hcs
    exact ⟨[], rfl, Nat.le_refl _, ⟨rfl, by decide, fun h => absurd h (by decide)⟩, fun x hx => by cases hx⟩
  · simp [Value.cells] at hcs
    obtain ⟨rfl, rfl, rfl⟩ := hcs
    have hlm : len ≤ m := by rw [hmm]; split <;> omega
    have c28 : Tryz.prog.cellsOf 45 = 3 := by kernel_rfl
    have c26 : Tryz.prog.cellsOf 39 = 2 := by kernel_rfl
    have c23 : Tryz.prog.cellsOf 37 = 1 := by kernel_rfl
    have c9 : Tryz.prog.cellsOf 9 = 1 := by kernel_rfl
    have each : ∀ i, i < len → ∃ q : S45, W.cell? (x.add (i * 3)) = some (.string q.f0) ∧ W.cell? (x.add (i * 3 + 1)) = some (.int .u64 q.f1.f0) ∧ W.cell? (x.add (i * 3 + 2)) = some (.int .u64 q.f1.f1) ∧ OkU q.f1 := by
      intro i hi
      obtain ⟨cs', h1, h2⟩ := hx i (by omega)
      rw [c28] at h1
      obtain ⟨_, hlen, hcell⟩ := World.cells?_some h1
      obtain ⟨xs, k, hk, hxy, _, hxl, hf⟩ := DataW.trod_struct Tryz.underlying45 h2
      match cs', hlen with
      | [v0, v1, v2], _ =>
        have e0 := hcell 0 (by omega)
        have e1 := hcell 1 (by omega)
        have e2 := hcell 2 (by omega)
        rw [Go.Deep.add_add] at e0 e1 e2
        simp at e0 e1 e2
        have hl4 : xs.length = 2 := hxl
        have g0 : DataW.trod enc Tryz.prog W base spare held k 9 (([v0, v1, v2].drop 0).take (Tryz.prog.cellsOf 9)) = xs[0]? := hf 0 _ rfl
        have g1 : DataW.trod enc Tryz.prog W base spare held k 39 (([v0, v1, v2].drop 1).take (Tryz.prog.cellsOf 39)) = xs[1]? := hf 1 _ rfl
        rw [c9] at g0
        rw [c26] at g1
        rw [List.getElem?_eq_getElem (by omega)] at g0 g1
        obtain ⟨s0, q0, _, _⟩ := DataW.trod_string Tryz.underlying9 g0
        obtain ⟨ys, k2, hk2, _, _, hyl, hf2⟩ := DataW.trod_struct Tryz.underlying39 g1
        have hl2 : ys.length = 2 := hyl
        have p0 : DataW.trod enc Tryz.prog W base spare held k2 37 ((([v1, v2] : List Value).drop 0).take (Tryz.prog.cellsOf 37)) = ys[0]? := hf2 0 _ rfl
        have p1 : DataW.trod enc Tryz.prog W base spare held k2 37 ((([v1, v2] : List Value).drop 1).take (Tryz.prog.cellsOf 37)) = ys[1]? := hf2 1 _ rfl
        rw [c23] at p0 p1
        rw [List.getElem?_eq_getElem (by omega)] at p0 p1
        obtain ⟨n1, q1, _, w1⟩ := DataW.trod_int Tryz.underlying37 p0
        obtain ⟨n2, q2, _, w2⟩ := DataW.trod_int Tryz.underlying37 p1
        simp at q0 q1 q2
        exact ⟨⟨s0, ⟨n1, n2⟩⟩, by rw [e0, q0], by rw [e1, q1], by rw [e2, q2], okU_of w1 w2⟩
    haveI : Inhabited S45 := ⟨z45⟩
    obtain ⟨q, hq⟩ := Go.Deep.choose_lt each
    refine ⟨(List.range len).map q, by simp, hl, ⟨by simp, by simp only [maxLen] at hm; omega, fun _ => ⟨x, rfl, fun j p hp => ⟨[.string p.f0, .int .u64 p.f1.f0, .int .u64 p.f1.f1], rfl, k45_mk W p, fun i u hu => ?_⟩⟩⟩, fun y hy => ?_⟩
    · rw [List.getElem?_map] at hp
      obtain ⟨j', hj', rfl⟩ := Option.map_eq_some_iff.1 hp
      obtain ⟨hj, rfl⟩ := List.getElem?_eq_some_iff.1 hj'
      rw [List.length_range] at hj
      simp only [List.getElem_range] at hu ⊢
      obtain ⟨k0, k1, k2, _⟩ := hq j hj
      show W.cell? (x.add (j * 3 + i)) = some u
      match i, hu with
      | 0, hu => simp only [List.getElem?_cons_zero, Option.some.injEq] at hu; rw [← hu]; exact k0
      | 1, hu => simp only [List.getElem?_cons_succ, List.getElem?_cons_zero, Option.some.injEq] at hu; rw [← hu]; exact k1
      | 2, hu => simp only [List.getElem?_cons_succ, List.getElem?_cons_zero, Option.some.injEq] at hu; rw [← hu]; exact k2
      | i + 3, hu => simp at hu
    · obtain ⟨j, hj, rfl⟩ := List.mem_map.1 hy
      obtain ⟨_, _, _, k5⟩ := hq j (List.mem_range.1 hj)
      exact k5
end Go.Proofs.YtfijhbfdkcajjaaGreatDoor.Pr

/- SlotsPlaces's walk, and its answer. -/
namespace Go.Proofs.YtfijhbfdkcajjaaGreatDoor.Pr
open Go.RowKit Go.Proofs.YtfijhbfdkcajjaaGreatDoorW.PrintWords Go.Proofs.YtfijhbfdkcajjaaGreatDoorW.PrintLast Go.Proofs.YtfijhbfdkcajjaaGreatDoorW.PrintMore
set_option linter.unusedVariables false
theorem slotsPlaces_walk (a0 : ByteArray) (a1 : Int) (A : Option Addr) (len cap : Nat) (l : List S41) (A2 : Option Addr) (len2 cap2 : Nat) (rows : List S45) (w : World) (hGT : GTab w) (h0 : a0.size ≤ 140737488351232) (h1 : (Lit.int .i64 a1).wf = true) (h2 : AccRow w A len cap l) (h3 : RowRow w A2 len2 cap2 rows) :
    Calls Tryz.prog 3 #[.string a0, .int .i64 a1, .slice A len cap, .slice A2 len2 cap2] w fun e w' => e = .returned (.bool true) ∧ Below w.heap.size w w' := by
  obtain ⟨rfl, hc, hr, hw⟩ := h2
  obtain ⟨rfl, hc2, hr2, _⟩ := h3
  obtain ⟨k, h⟩ := places_pure a0 a1 l rows (fun x hx => (hw x hx).1)
  exact paymasterlaw12_SlotsPlaces.calls k a0 a1 A cap l A2 cap2 rows true w hGT hr hc hr2 hc2 h
end Go.Proofs.YtfijhbfdkcajjaaGreatDoor.Pr
