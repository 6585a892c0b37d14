import Derived.Test.YtaeaacdjiijooaaCoE
namespace Go.Proofs.Ytaeaacdjiijooaa.Co
open Go.Conc Go.RowKit Go.Proofs.Ytaeaacdjiijooaa.Lift Go.Proofs.YtaeaacdjiijooaaW.PrintWords Go.Proofs.YtaeaacdjiijooaaW.PrintLast Go.Proofs.YtaeaacdjiijooaaW.PrintMore
set_option linter.unusedVariables false
set_option linter.unusedSimpArgs false
/-- The call that the go statement holds. -/
def dP (A : Option Addr) (l cp c : Nat) : Deferred := { target := .fn (.func 29) #[], args := #[.slice A l cp, .chan (some c)] }
noncomputable def body29 : Code := Try.f29.body.getD .skip
theorem stepG_deferB {P : Program} {main : Bool} {b : Frame} {a : Act} {k : List Item} {cs : List Frame} {w : World} {ops : Array Oper} {i : Nat} {rest : List Nat} {o : Oper} {d : Deferred} (ho : ops[i]? = some o) (hw : Region.wanted o (yielded ops a.tmps) = true)
    (hk : b.kind ≠ .early) (hr : (execOp a.eval o).run P w = .ok (.defer d) w) (he : (execOp a.eval o).events P w #[] = #[]) :
    stepG P main (G (b.at a (.inRegion ops (i :: rest) :: k)) cs) w = .go (G (b.at (Act.put ⟨a.tmps, d :: a.defers⟩ o.dst undef) (.inRegion ops rest :: k)) cs) w #[] := by
  have hfin : (b.at ⟨a.tmps, d :: a.defers⟩ (.inRegion ops (i :: rest) :: k)).finish undef = b.at (Act.put ⟨a.tmps, d :: a.defers⟩ o.dst undef) (.inRegion ops rest :: k) := by rw [Frame.finish_at, ho]; rfl
  have hk' : (b.kind == CallKind.early) = false := by simpa using hk
  rw [stepG_oper ho hw, ← hfin]
  simp [stepG.apply, hr, he, G, Frame.at, hk', GStep.after, seen_none]
theorem born_step (A : Option Addr) (l cp c : Nat) (w : World) : stepG Try.prog false (born Try.prog (dP A l cp c)) w =
    .go (G (b29.at ⟨#[.slice A l cp, .chan (some c), undef, undef, undef, undef, undef, undef, undef, undef, undef, undef, undef, undef, undef, undef, undef, undef, undef, undef, undef, undef, undef, undef], []⟩ [.code body29]) [bot]) w #[] := by
  simp [born, dP, stepG, unwind, callDeferred, invoke, callFunc, Try.func29, Try.f29, seen, GStep.after, G, Frame.enter, Frame.at, b29, bot, body29]
set_option maxHeartbeats 4000000 in
set_option maxRecDepth 100000 in
theorem sends_all (c B : Nat) (w0 : World) (A : Option Addr) (l cp : Nat) (ds : List Int) (hA : ∀ ad, A = some ad → Src c B w0 ad l ds) (hnil : 1 < l → ∃ ad, A = some ad) (hl : l ≤ 4096) :
    SendsR Try.prog c (SB c B w0) (Own (Stl B c)) (valsP ds 0 (l / 2)) (born Try.prog (dP A l cp c)) := by
  obtain ⟨n₁, hloop⟩ := sends_from c B w0 A l cp ds hA hnil hl (l / 2) 0 (by omega) (by omega)
  refine (sendsR_iff ..).2 ⟨n₁ + 11 + 1, Goes.step rfl fun w₁ _ => ?_⟩
  rw [born_step]
  refine ⟨dd_still rfl, ?_⟩
  simp only [body29, Try.f29, Option.getD_some]
  repeat (first | (own_ctl; refine ⟨dd_still rfl, ?_⟩) | (refine Goes.step rfl (fun w₁ h₁ => ?_); refine goes_oper_k rfl rfl (by decide) (fun K hK => ?_); go_simp; refine hK _ _ ⟨dd_still (listed_nil (by simp [go_sem])), ?_⟩; clear hK K))
  refine Goes.step rfl (fun w₂ h₂ => ?_)
  rw [stepG_deferB (d := { target := .builtin .close #[73] 0 #[false], args := #[.chan (some c)] }) rfl rfl (by decide) (by simp [go_sem, execOp, resolve, Act.eval]) (by simp [go_sem, execOp, resolve, Act.eval])]
  refine ⟨dd_still rfl, ?_⟩
  simp only [Act.put]
  repeat (first | (own_ctl; refine ⟨dd_still rfl, ?_⟩) | (refine Goes.step rfl (fun w₁ h₁ => ?_); refine goes_oper_k rfl rfl (by decide) (fun K hK => ?_); go_simp; refine hK _ _ ⟨dd_still (listed_nil (by simp [go_sem])), ?_⟩; clear hK K))
  exact hloop (fun i => if i = 5 then .chan (some c) else undef) _
end Go.Proofs.Ytaeaacdjiijooaa.Co
