import Derived.Test.YtaeaacdjiijooaaCoF
import Derived.Test.YtaeaacdjiijooaaPlK
import Derived.Test.YtaeaacdjiijooaaPlA
namespace Go.Proofs.Ytaeaacdjiijooaa.Co
open Go.Conc Go.RowKit Go.Proofs.Ytaeaacdjiijooaa.Lift Go.Proofs.YtaeaacdjiijooaaW.PrintWords Go.Proofs.YtaeaacdjiijooaaW.PrintLast Go.Proofs.YtaeaacdjiijooaaW.PrintMore
set_option linter.unusedVariables false
set_option linter.unusedSimpArgs false
/-- The pairs, from pair k on. -/
def pairsP (ds : List Int) : Nat → Nat → List (Int × Int)
  | _, 0 => []
  | k, m + 1 => (ds.getD (2 * k) 0, ds.getD (2 * k + 1) 0) :: pairsP ds (k + 1) m
theorem valsP_eq (ds : List Int) : ∀ m k, valsP ds k m = (pairsP ds k m).map encP
  | 0, k => rfl
  | m + 1, k => by rw [valsP, pairsP, List.map_cons, valsP_eq ds m (k + 1)]
theorem pairsP_length (ds : List Int) : ∀ m k, (pairsP ds k m).length = m
  | 0, k => rfl
  | m + 1, k => by rw [pairsP, List.length_cons, pairsP_length ds m (k + 1)]
noncomputable def codeG : Code := match Try.f14.body with
  | some (.seq _ (.seq _ (.seq _ (.seq c _)))) => c
  | _ => .skip
noncomputable def restG : Code := match Try.f14.body with
  | some (.seq _ (.seq _ (.seq _ (.seq _ c)))) => c
  | _ => .skip
noncomputable def opsG : Array Oper := match codeG with
  | .region _ ops _ => ops
  | _ => #[]
/-- draw.Plan's slots at its go statement. -/
def TGo (h : Int) (A : Option Addr) (l cp c : Nat) (X : Value) (J : Nat → Value) : Array Value :=
  #[.int .i64 h, .slice A l cp, J 2, J 3, J 4, J 5, .chan (some c), J 7, J 8, J 9, J 10, J 11, J 12, J 13, J 14, J 15, J 16, J 17, J 18, J 19, J 20, X, .chan (some c), J 23, J 24, J 25, J 26, J 27, J 28, J 29, J 30, J 31, J 32, J 33, J 34, J 35, J 36, J 37, J 38, J 39, J 40]
noncomputable def gGo (h : Int) (A : Option Addr) (l cp c : Nat) (X : Value) (J : Nat → Value) (cs : List Frame) : Goroutine :=
  G ((base 14).at ⟨TGo h A l cp c X J, []⟩ [.inRegion opsG [3], .code restG]) cs
theorem dr_nil (B : Nat) {w : World} {es : Array Event} (h : es = #[]) : DR B w w es := ⟨fun _ _ => rfl, fun e he => by subst h; simp at he⟩
set_option maxHeartbeats 4000000 in
set_option maxRecDepth 100000 in
theorem recvs_R (h : Int) (h0 : 0 ≤ h) (h1 : h ≤ 63) (A : Option Addr) (l cp c B : Nat) (X : Value) (J : Nat → Value) (cs : List Frame) (w0 w : World) (hA0 : Go.Conc.Aside c w0 w) (hc : c < B) (hB : B = w0.heap.size) (ps : List (Int × Int)) (hps : ps.length < 2000) :
    Recvs Try.prog c (SB c B w0) (Own (Stl B c)) zP (FinR h A l cp c B w0 ps.length (ps.flatMap (spanC h)) cs) (ps.map encP) (G ((base 14).at ⟨TGo h A l cp c X J, []⟩ [.inRegion opsG [], .code restG]) cs) w := by
  have HF : HR c B B w0 (.slice none 0 0) 0 [] w0 := ⟨hc, Nat.le_refl _, by omega, fun _ _ _ => rfl, rfl, rfl, rfl, World.ownsRow_nil _ _ _ _, fun g hg => by cases hg⟩
  have hst := fun (J' : Nat → Value) (w₁ : World) (hr : Go.Conc.Aside c w0 w₁) => stopA_R h h0 h1 A l cp c B w0 cs ps 0 B [] (.slice none 0 0) J' w₁ (HF.rely hr) (by omega)
  simp only [Nat.zero_add, List.nil_append] at hst
  refine (recvs_iff ..).2 ⟨0 + 14, goes_weaken (D := DR B) (fun w' w'' es => da_of_dr hc w0) ?_⟩
  simp only [opsG, codeG, restG, TGo, Try.f14]
  have trans : ∀ {a b c' : World}, Go.Conc.Aside c a b → Go.Conc.Aside c b c' → Go.Conc.Aside c a c' := fun h1 h2 => Go.Conc.Aside.trans h1 h2
  have HA := hA0
  repeat (first | (refine Goes.step rfl (fun w₁ h₁ => ?_); replace HA := trans HA h₁; clear h₁; first | (refine goes_oper_k rfl rfl (by decide) (fun K hK => ?_); go_simp; refine hK _ _ ⟨dr_nil B (listed_nil (by simp [go_sem])), ?_⟩; clear hK K) | ((first | rw [stepG_seq] | rw [stepG_skip] | rw [stepG_block] | rw [stepG_loop] | rw [stepG_inLoop] | rw [stepG_inBlock] | rw [stepG_region_end] | (rw [stepG_region]; simp only [List.size_toArray, List.length_cons, List.length_nil, Nat.reduceAdd, Nat.zero_add, List.range, List.range.loop])); simp only [goes_go]; refine ⟨dr_nil B rfl, ?_⟩)))
  exact Goes.stop fun w₂ h₂ => hst (fun i => if i = 21 then X else if i = 22 then .chan (some c) else J i) w₂ (trans HA h₂)
/-- AT THE GO STATEMENT. -/
theorem atGo_P {s r : Nat} {tm : Bool} (h : Int) (h0 : 0 ≤ h) (h1 : h ≤ 63) (A A' : Option Addr) (l cp cp' c : Nat) (J : Nat → Value) (cs : List Frame) (w : World) (ds : List Int) (hc : w.heap[c]? = some (.chan 0 #[] false s r tm)) (hl : ds.length ≤ 2048)
    (hX : Kd.C (Kd.int .u64) w A' ds.length ds) (hXb : ∀ ad, A' = some ad → ad.block < w.heap.size ∧ ad.block ≠ c) :
    AtGoP Try.prog (FinR h A l cp c w.heap.size w (ds.length / 2) ((pairsP ds 0 (ds.length / 2)).flatMap (spanC h)) cs) (gGo h A l cp c (.slice A' ds.length cp') J cs) w := by
  have hcB : c < w.heap.size := blk_lt hc
  refine ⟨rfl, fun d => ⟨_, _, w.at d, _, c, SB c w.heap.size w, Stl w.heap.size c, zP, valsP ds 0 (ds.length / 2), s, r, tm, stepG_spawn (d := dP A' ds.length cp' c) rfl rfl (by decide) ?_ rfl, ?_, ?_, ?_, ?_, hc, ?_, ?_⟩⟩
  · simp [go_sem, opsG, codeG, Try.f14, execOp, resolve, Act.eval, TGo, dP]
  · refine (congrArg Lift.Ev (listed_nil ?_)).mpr ev_nil
    simp [go_sem, opsG, codeG, Try.f14, execOp, resolve, Act.eval, TGo]
  · rintro l (⟨a, rfl, _⟩ | rfl) <;> rfl
  · intro w₁ w₂ h hS b hb hne
    exact (h.block b hne).trans (hS b hb hne)
  · intro b hb hne
    rfl
  · have := recvs_R h h0 h1 A l cp c w.heap.size (.slice A' ds.length cp') J cs w (w.at d) (Go.Conc.Aside.at c w d) hcB rfl (pairsP ds 0 (ds.length / 2)) (by rw [pairsP_length]; omega)
    rw [pairsP_length] at this
    rw [valsP_eq]
    exact this
  · refine sends_all c w.heap.size w A' ds.length cp' ds (fun ad hA => ?_) (fun h1 => ?_) (by omega)
    · obtain ⟨h1, h2⟩ := hXb ad hA
      refine ⟨h1, h2, fun j hj => ?_⟩
      obtain ⟨ad', e, hx⟩ := Kd.at_int hX (j : Int) (by omega) (by omega)
      rw [hA] at e
      cases e
      exact hx
    · obtain ⟨ad, hA, _⟩ := hX.2.2 (by omega)
      exact ⟨ad, hA⟩
end Go.Proofs.Ytaeaacdjiijooaa.Co
