import Derived.Test.YtaeaacdjiijooaaCoB
import Derived.Conc.PipeWords
namespace Go.Proofs.Ytaeaacdjiijooaa.Co
open Go.Conc Go.RowKit Go.Proofs.Ytaeaacdjiijooaa.Lift Go.Proofs.YtaeaacdjiijooaaW.PrintWords Go.Proofs.YtaeaacdjiijooaaW.PrintLast Go.Proofs.YtaeaacdjiijooaaW.PrintMore
set_option linter.unusedVariables false
set_option linter.unusedSimpArgs false
noncomputable def tailP : Code := match Try.f14.body with
  | some (.seq _ (.seq _ (.seq _ (.seq _ (.seq _ (.seq _ t)))))) => t
  | _ => .skip
/-- draw.Plan in its loop, at the receive ([0, 1]) or behind it ([1]). -/
noncomputable def gR (h : Int) (A : Option Addr) (l cp c : Nat) (v : Value) (J : Nat → Value) (rest : List Nat) (cs : List Frame) : Goroutine :=
  G ((base 14).at ⟨TP h A l cp c v J, []⟩ [.inRegion opsR rest, .code restR, .inLoop loopX, .inBlock 1, .code tailP]) cs
def zP : Value := .agg #[.int .u64 0, .int .u64 0]
def encP (p : Int × Int) : Value := .agg #[.int .u64 p.1, .int .u64 p.2]
theorem loud14 : (Try.prog.funcs[14]?).any (·.norace) = false := by kernel_rfl
/-- AT THE RECEIVE. -/
theorem comm_R (h : Int) (A : Option Addr) (l cp c : Nat) (v : Value) (J : Nat → Value) (cs : List Frame) (w : World) :
    stepG Try.prog true (gR h A l cp c v J [0, 1] cs) w = .comm (core (gR h A l cp c v J [0, 1] cs)) #[rcase c zP] true (.recv true) w #[] := by
  have hu := Try.underlying61
  obtain ⟨i0, hi, hz0, hz1, hz2⟩ := info_parts (P := Try.prog) (show (Try.prog.info? 64).map (fun i => (i.zero, i.size, i.bytes)) = some (some (.agg #[.int .u64 0, .int .u64 0]), 2, 16) by kernel_rfl)
  simp only [gR, opsR, loopX, Try.f14, TP, core_G]
  rw [stepG_comm (cases := #[rcase c zP]) (blocking := true) (shape := .recv true) (w' := w) rfl rfl (by decide) (by simp [go_sem, rcase, zP, hi, hz0])]
  simp [listed, go_sem, seen, hi, hz0]
theorem served_R (h : Int) (A : Option Addr) (l cp c : Nat) (v : Value) (J : Nat → Value) (cs : List Frame) (x : Value) :
    Go.Conc.served (core (gR h A l cp c v J [0, 1] cs)) x = gR h A l cp c v (fun i => if i = 24 then x else J i) [1] cs := by
  simp only [gR, opsR, loopX, Try.f14, TP, core_G, served_G]
  rfl
def spanC (h : Int) (p : Int × Int) : List Value := [.int .u64 (loV h p.1 p.2), .int .u64 (hiV h p.1 p.2)]
/-- The channel has been found closed. -/
def FinR (h : Int) (A : Option Addr) (l cp c B : Nat) (w0 : World) (n : Nat) (xs : List Value) (cs : List Frame) (g : Goroutine) (w : World) : Prop :=
  ∃ (M : Nat) (v : Value) (J : Nat → Value), g = gR h A l cp c v J [1] cs ∧ J 24 = .tuple #[zP, .bool false] ∧ HR c B M w0 v n xs w
theorem stopA_R (h : Int) (h0 : 0 ≤ h) (h1 : h ≤ 63) (A : Option Addr) (l cp c B : Nat) (w0 : World) (cs : List Frame) : ∀ (ps : List (Int × Int)) (m M : Nat) (xs : List Value) (v : Value) (J : Nat → Value) (w : World),
    HR c B M w0 v m xs w → m + ps.length < 2000 →
      StopA Try.prog c (SB c B w0) (Own (Stl B c)) zP (FinR h A l cp c B w0 (m + ps.length) (xs ++ ps.flatMap (spanC h)) cs) (ps.map encP) (gR h A l cp c v J [0, 1] cs) w := by
  obtain ⟨n, n2, hround⟩ := round_c c B
  have T := termsR B c
  intro ps
  induction ps with
  | nil =>
    intro m M xs v J w hF hlt
    refine ⟨rfl, #[], comm_R .., by simp, fun w₂ h₂ => ?_⟩
    dsimp only
    rw [served_R]
    refine ⟨M, v, _, rfl, by simp, ?_⟩
    simp only [List.flatMap_nil, List.append_nil, List.length_nil, Nat.add_zero]
    exact hF.rely h₂
  | cons p ps ih =>
    intro m M xs v J w hF hlt
    simp only [List.length_cons] at hlt
    refine ⟨rfl, #[], comm_R .., by simp, fun w₂ h₂ => ?_⟩
    dsimp only
    rw [served_R]
    refine (recvs_iff ..).2 ⟨0 + 3 + n2 + n, goes_weaken (D := DR B) (fun w w' es => da_of_dr hF.cB w0) ?_⟩
    have hO := hround M w0 v m xs h h0 h1 A l cp J p.1 p.2 (by omega) w₂ (hF.rely h₂)
    refine hO (base 14) (.code restR :: .inLoop loopX :: .inBlock 1 :: .code tailP :: []) cs _ (0 + 3 + n2) rfl (by simp [base]) fun e a' w' q => ?_
    cases e with
    | normal =>
      refine wpC_goes (m := 0 + 3) q rfl (by simp [base]) fun e a'' w'' q' => ?_
      cases e with
      | normal =>
        obtain ⟨M', v', J', rfl, hF'⟩ := q'
        show Goes _ _ _ _ _ _ _ _
        refine Goes.step rfl fun w₃ h₃ => ?_
        rw [stepG_inLoop]
        refine ⟨T.idle _, ?_⟩
        have hF' := hF'.rely h₃
        rw [show Item.code loopX = .code (.seq (.region 9 opsR false) restR) from rfl]
        refine Goes.step rfl fun w₄ h₄ => ?_
        rw [stepG_seq]
        refine ⟨T.idle _, ?_⟩
        have hF' := hF'.rely h₄
        refine Goes.step rfl fun w₅ h₅ => ?_
        rw [stepG_region]
        refine ⟨T.idle _, ?_⟩
        have hF' := hF'.rely h₅
        refine Goes.stop fun w₆ h₆ => ?_
        have := ih (m + 1) M' (xs ++ spanC h p) v' J' w₆ (hF'.rely h₆) (by omega)
        rw [show m + 1 + ps.length = m + (p :: ps).length by simp; omega, List.append_assoc, show spanC h p ++ List.flatMap (spanC h) ps = List.flatMap (spanC h) (p :: ps) from rfl] at this
        exact this
      | _ => exact q'.elim
    | _ => exact q.elim
end Go.Proofs.Ytaeaacdjiijooaa.Co
