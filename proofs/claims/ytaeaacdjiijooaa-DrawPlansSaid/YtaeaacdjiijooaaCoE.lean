import Derived.Test.YtaeaacdjiijooaaCoD
namespace Go.Proofs.Ytaeaacdjiijooaa.Co
open Go.Conc Go.RowKit Go.Proofs.Ytaeaacdjiijooaa.Lift Go.Proofs.YtaeaacdjiijooaaW.PrintWords Go.Proofs.YtaeaacdjiijooaaW.PrintLast Go.Proofs.YtaeaacdjiijooaaW.PrintMore
set_option linter.unusedVariables false
set_option linter.unusedSimpArgs false
/-- The child's slots. -/
def TB (A : Option Addr) (l cp c : Nat) (i : Int) (J : Nat → Value) : Array Value :=
  #[.slice A l cp, .chan (some c), J 2, J 3, .int .i64 i, J 5, J 6, J 7, J 8, J 9, J 10, J 11, J 12, J 13, J 14, J 15, J 16, J 17, J 18, J 19, J 20, J 21, J 22, J 23]
/-- The child's bottom frame, once its one call has been taken off it. -/
noncomputable def bot : Frame := { (default : Frame) with fn := Try.prog.funcs.size, defers := [], mode := .panicking [goexitEntry] }
/-- The deferred close. -/
def dC (c : Nat) : List Deferred := [{ target := .builtin .close #[73] 0 #[false], args := #[.chan (some c)] }]
theorem quits29 (T : Array Value) (k : List Item) : QuitsIn Try.prog 2 (G { b29.at ⟨T, []⟩ k with mode := .returning } [bot]) := by
  refine .inr ⟨rfl, G bot [], fun w => ?_, ?_⟩
  · simp [G, stepG, unwind, doReturn, results, Frame.at, b29, bot, Try.func29, Try.f29, seen, GStep.after, goexitEntry]
  refine .inr ⟨rfl, { G bot [] with status := .finished }, fun w => ?_, rfl⟩
  simp [G, stepG, unwind, bot, goexitEntry, Frame.catches]
  rfl
theorem loud29 : (Try.prog.funcs[29]?).any (·.norace) = false := by kernel_rfl
theorem close29 (c B : Nat) (w0 : World) (T : Array Value) (k : List Item) (ty : TypeId) (cs : Array Bool) : AtClose Try.prog c (SB c B w0) (Own (Stl B c)) (G { b29.at ⟨T, [{ target := .builtin .close #[73] ty cs, args := #[.chan (some c)] }]⟩ k with mode := .returning } [bot]) := by
  refine ⟨rfl, by simp [mayWake, G, Frame.at], G { b29.at ⟨T, []⟩ k with mode := .returning } [bot], #[⟨.obj c, false, true⟩], 2, fun w s r tm _ hc => ?_, ?_, quits29 T k⟩
  · have hr := run_close_open (P := Try.prog) #[73] ty hc
    have he := events_close_open (P := Try.prog) (es := #[]) #[73] ty hc
    have e1 : (invoke (.builtin .close #[73] ty cs) #[.chan (some c)]).runT Try.prog w #[] = (.ok (.value (.tuple #[])) (w.shut c s r tm), #[⟨.obj c, false, true⟩, ⟨.obj c, true, true⟩]) := by
      refine Prod.ext ?_ ?_
      · rw [Sem.runT_fst]
        simp [invoke, builtin, hr, World.shut]
      · show Sem.events Try.prog (invoke (.builtin .close #[73] ty cs) #[.chan (some c)]) w #[] = _
        simp [invoke, builtin, hr, he]
    have e2 : seen Try.prog 29 #[⟨.obj c, false, true⟩, ⟨.obj c, true, true⟩] = #[⟨.obj c, false, true⟩, ⟨.obj c, true, true⟩] := seen_eq loud29 (by simp)
    simp only [G, stepG, unwind, Frame.at, callDeferred, e1, b29]
    simp [GStep.after, e2]
  · intro e he
    simp at he
    subst he
    exact ⟨fun m hm => (by cases hm), rfl, fun h => h (.inr rfl)⟩
/-- What is to be sent, from pair k on. -/
def valsP (ds : List Int) : Nat → Nat → List Value
  | _, 0 => []
  | k, m + 1 => encP (ds.getD (2 * k) 0, ds.getD (2 * k + 1) 0) :: valsP ds (k + 1) m
theorem ready_all : ∀ b0 b1 b2 b3 b4 b5 b6 b7 b8 b9 b10 : Bool, CL b0 b1 b2 b3 b4 b5 b6 b7 b8 b9 b10 → b0 = true → b10 = true → b1 = true ∧ b2 = true ∧ b3 = true ∧ b4 = true ∧ b5 = true ∧ b6 = true ∧ b7 = true ∧ b8 = true ∧ b9 = true := by
  intro b0 b1 b2 b3 b4 b5 b6 b7 b8 b9 b10 h h0 h10
  obtain ⟨h4, h9⟩ := h.c10 h10
  have h3 := h.c4 h4
  obtain ⟨h1, h2⟩ := h.c3 h3
  have h8 := h.c9 h9
  obtain ⟨h5, h7⟩ := h.c8 h8
  exact ⟨h1, h2, h3, h4, h5, h.c7 h7, h7, h8, h9⟩
set_option maxRecDepth 100000 in
theorem ready_some : ∀ b0 b1 b2 b3 b4 b5 b6 b7 b8 b9 b10 : Bool, Region.ready .any opsB #[b0, b1, b2, b3, b4, b5, b6, b7, b8, b9, b10, false] ≠ [] := by
  have key : ∀ (j : Nat) (lst : Array Bool), j ∈ Region.ready .any opsB lst → Region.ready .any opsB lst ≠ [] := fun j lst h e => by rw [e] at h; cases h
  intro b0 b1 b2 b3 b4 b5 b6 b7 b8 b9 b10
  have mk : ∀ j o, opsB[j]? = some o → (#[b0, b1, b2, b3, b4, b5, b6, b7, b8, b9, b10, false] : Array Bool).getD j true = false → (∀ e ∈ o.after, (#[b0, b1, b2, b3, b4, b5, b6, b7, b8, b9, b10, false] : Array Bool).getD e.on false = true) →
      Region.ready .any opsB #[b0, b1, b2, b3, b4, b5, b6, b7, b8, b9, b10, false] ≠ [] := fun j o ho hu hd => key j _ (mem_ready.2 ⟨hu, o, ho, fun e he _ => hd e he⟩)
  cases b0
  · exact mk 0 _ rfl rfl (by simp [opsB, loopB, Try.f29])
  cases b1
  · exact mk 1 _ rfl rfl (by simp [opsB, loopB, Try.f29])
  cases b2
  · exact mk 2 _ rfl rfl (by simp [opsB, loopB, Try.f29])
  cases b3
  · exact mk 3 _ rfl rfl (by simp [opsB, loopB, Try.f29])
  cases b4
  · exact mk 4 _ rfl rfl (by simp [opsB, loopB, Try.f29])
  cases b5
  · exact mk 5 _ rfl rfl (by simp [opsB, loopB, Try.f29])
  cases b6
  · exact mk 6 _ rfl rfl (by simp [opsB, loopB, Try.f29])
  cases b7
  · exact mk 7 _ rfl rfl (by simp [opsB, loopB, Try.f29])
  cases b8
  · exact mk 8 _ rfl rfl (by simp [opsB, loopB, Try.f29])
  cases b9
  · exact mk 9 _ rfl rfl (by simp [opsB, loopB, Try.f29])
  cases b10
  · exact mk 10 _ rfl rfl (by simp [opsB, loopB, Try.f29])
  · exact mk 11 _ rfl rfl (by simp [opsB, loopB, Try.f29])
/-- FROM THE REGION's HEAD TO ITS SEND. -/
theorem region_D (c B : Nat) (w0 : World) (ad : Addr) (l cp : Nat) (i : Int) (ds : List Int) (J : Nat → Value) (dd : List Deferred) (hc : Src c B w0 ad l ds) (h0 : 0 ≤ i) (h1 : i + 1 < l) (hl : l ≤ 4096) (k : List Item) (cs : List Frame) {Stop : Goroutine → World → Prop} {m : Nat}
    (hD : ∀ (J' : Nat → Value) w, SB c B w0 w → Goes Try.prog false (RD c B w0) (DD B c) Stop m (G (b29.at ⟨TD ad l cp c i ds J' true true true true true true true true true true true, dd⟩ (.inRegion opsB [11] :: k)) cs) w) (w : World) (t : Nat) (hS : SB c B w0 w) :
    Goes Try.prog false (RD c B w0) (DD B c) Stop (m + 12) (G (b29.at ⟨TB (some ad) l cp c i J, dd⟩ (.inRegion opsB (Region.schedule (Try.prog.follows .mixedOrders) opsB t) :: k)) cs) w := by
  have hm : Try.prog.follows .mixedOrders = true := by kernel_rfl
  simp only [Region.schedule, hm, Bool.true_or, if_true, Region.linearise]
  refine draw_walk (termsD c B w0) (I := ID c B w0 ad l cp i ds J dd) (z := 11) (Done := fun a w => a = ⟨TD ad l cp c i ds J true true true true true true true true true true true, dd⟩ ∧ SB c B w0 w)
    (fun f lst a w w₁ h hr => ?_) (fun lst a w h => ?_) (fun f lst a w h => ?_) (fun f lst a w h hz => ?_) (step_D c B w0 ad l cp i ds J dd hc h0 h1 hl) rfl (by decide) (fun a w h => ?_) 12 t (Array.replicate 12 false) _ w ?_
  · obtain ⟨b0, b1, b2, b3, b4, b5, b6, b7, b8, b9, b10, e1, e2, e3, e4, _⟩ := h
    exact ⟨b0, b1, b2, b3, b4, b5, b6, b7, b8, b9, b10, e1, e2, e3, e4, hr⟩
  · obtain ⟨b0, b1, b2, b3, b4, b5, b6, b7, b8, b9, b10, e1, e2, e3, e4, _⟩ := h
    have hle : ∀ b : Bool, b.toNat ≤ 1 := fun b => by cases b <;> simp
    have := hle b0; have := hle b1; have := hle b2; have := hle b3; have := hle b4; have := hle b5; have := hle b6; have := hle b7; have := hle b8; have := hle b9; have := hle b10
    omega
  · obtain ⟨b0, b1, b2, b3, b4, b5, b6, b7, b8, b9, b10, rfl, e2, e3, e4, _⟩ := h
    exact ready_some _ _ _ _ _ _ _ _ _ _ _
  · obtain ⟨b0, b1, b2, b3, b4, b5, b6, b7, b8, b9, b10, rfl, e2, e3, rfl, hS'⟩ := h
    obtain ⟨hun, o, ho, hall⟩ := mem_ready.1 hz
    have hd : b0 = true ∧ b10 = true := by simpa [opsB, loopB, Try.f29, Region.binds] using (show ∀ e ∈ (opsB.getD 11 default).after, Region.binds .any e = true → _ from fun e he hb => hall e (by have : o = opsB.getD 11 default := (Option.some.inj ho).symm; rw [this]; exact he) hb)
    obtain ⟨rfl, rfl⟩ := hd
    obtain ⟨rfl, rfl, rfl, rfl, rfl, rfl, rfl, rfl, rfl⟩ := ready_all _ _ _ _ _ _ _ _ _ _ _ e3 rfl rfl
    exact ⟨⟨rfl, hS'⟩, by simp at e2; omega⟩
  · obtain ⟨rfl, hS'⟩ := h
    exact hD J w hS'
  · exact ⟨false, false, false, false, false, false, false, false, false, false, false, rfl, rfl, ⟨by simp, by simp, by simp, by simp, by simp, by simp⟩, rfl, hS⟩
theorem hs_len (l : Nat) (i : Int) (hl : l ≤ 4096) (h0 : 0 ≤ i) (h1 : i ≤ 4096) : IntKind.i64.wrap (i + 1) = i + 1 := by rw [IntKind.wrap_i64]; omega
set_option maxHeartbeats 4000000 in
set_option maxRecDepth 100000 in
/-- THE SENDER's SCRIPT, FROM THE LOOP's HEAD: k pairs sent, m to send. -/
theorem sends_from (c B : Nat) (w0 : World) (A : Option Addr) (l cp : Nat) (ds : List Int) (hA : ∀ ad, A = some ad → Src c B w0 ad l ds) (hnil : 1 < l → ∃ ad, A = some ad) (hl : l ≤ 4096) : ∀ (m k : Nat), 2 * (k + m) ≤ l → l < 2 * (k + m) + 2 →
    ∃ n', ∀ (J : Nat → Value) (w : World), Goes Try.prog false (RD c B w0) (DD B c) (StopBR Try.prog c (SB c B w0) (Own (Stl B c)) (valsP ds k m)) n' (G (b29.at ⟨TB A l cp c (2 * k : Nat) J, dC c⟩ [.code loopB, .inLoop loopB, .inBlock 0]) [bot]) w := by
  intro m
  induction m with
  | zero =>
    intro k hk1 hk2
    refine ⟨0 + 40, fun J w => ?_⟩
    have hwr : IntKind.i64.wrap (((2 * k : Nat) : Int) + 1) = ((2 * k : Nat) : Int) + 1 := hs_len l _ hl (by omega) (by omega)
    have hcmp : decide (((2 * k : Nat) : Int) + 1 < (l : Int)) = false := decide_eq_false (by omega)
    generalize hI : ((2 * k : Nat) : Int) = I at hwr hcmp ⊢
    clear hI
    simp only [loopB, TB, Try.f29]
    repeat (first | (own_ctl; refine ⟨dd_still rfl, ?_⟩) | (refine Goes.step rfl (fun w₁ h₁ => ?_); refine goes_oper_k rfl rfl (by decide) (fun K hK => ?_); go_simp; refine hK _ _ ⟨dd_still (listed_nil (by simp [go_sem])), ?_⟩; clear hK K))
    refine Goes.step rfl (fun _ _ => ?_)
    rw [stepG_cond (t := false) rfl]
    simp only [goes_go, if_false, Bool.false_eq_true, ↓reduceIte]
    refine ⟨dd_still rfl, ?_⟩
    refine Goes.step rfl (fun _ _ => ?_)
    apply goes_exit
    · rfl
    refine ⟨dd_still rfl, ?_⟩
    refine Goes.step rfl (fun _ _ => ?_)
    rw [stepG_end]
    refine ⟨dd_still rfl, ?_⟩
    exact Goes.stop fun _ _ => close29 c B w0 _ [] 0 #[false]
  | succ m ih =>
    intro k hk1 hk2
    obtain ⟨ad, rfl⟩ := hnil (by omega)
    obtain ⟨n₁, ih⟩ := ih (k + 1) (by omega) (by omega)
    refine ⟨0 + 12 + 40, fun J w => ?_⟩
    have hc := hA ad rfl
    have hi0 : 0 ≤ ((2 * k : Nat) : Int) := by omega
    have hi1 : ((2 * k : Nat) : Int) + 1 < l := by omega
    have hwr : IntKind.i64.wrap (((2 * k : Nat) : Int) + 1) = ((2 * k : Nat) : Int) + 1 := hs_len l _ hl (by omega) (by omega)
    have hwr2 : IntKind.i64.wrap (((2 * k : Nat) : Int) + 2) = ((2 * (k + 1) : Nat) : Int) := by rw [IntKind.wrap_i64]; omega
    have hcmp : decide (((2 * k : Nat) : Int) + 1 < (l : Int)) = true := decide_eq_true hi1
    have ht0 : (((2 * k : Nat) : Int)).toNat = 2 * k := by omega
    have hval : encP (ds.getD (2 * k) 0, ds.getD (2 * k + 1) 0) = .agg #[.int .u64 (ds.getD ((2 * k : Nat) : Int).toNat 0), .int .u64 (ds.getD (((2 * k : Nat) : Int).toNat + 1) 0)] := by rw [ht0]; rfl
    show Goes _ _ _ _ (StopBR Try.prog c (SB c B w0) (Own (Stl B c)) (encP (ds.getD (2 * k) 0, ds.getD (2 * k + 1) 0) :: valsP ds (k + 1) m)) _ _ _
    rw [hval]
    generalize hI : ((2 * k : Nat) : Int) = I at hi0 hi1 hwr hwr2 hcmp ⊢
    generalize hK' : ((2 * (k + 1) : Nat) : Int) = I' at hwr2 ih
    clear hval ht0 hI hK'
    have hreg := fun (J : Nat → Value) (Stop : Goroutine → World → Prop) (n : Nat) => region_D c B w0 ad l cp I ds J (dC c) hc hi0 hi1 hl (.inBlock 1 :: .code incB :: .inLoop loopB :: .inBlock 0 :: []) [bot] (Stop := Stop) (m := n)
    simp only [opsB, incB, loopB, TB, Try.f29] at hreg ⊢
    repeat (first | (own_ctl; refine ⟨dd_still rfl, ?_⟩) | (refine Goes.step rfl (fun w₁ h₁ => ?_); refine goes_oper_k rfl rfl (by decide) (fun K hK => ?_); go_simp; refine hK _ _ ⟨dd_still (listed_nil (by simp [go_sem])), ?_⟩; clear hK K))
    refine Goes.step rfl (fun _ _ => ?_)
    rw [stepG_cond (t := true) rfl]
    simp only [goes_go, if_true, ↓reduceIte]
    refine ⟨dd_still rfl, ?_⟩
    repeat (first | (own_ctl; refine ⟨dd_still rfl, ?_⟩) | (refine Goes.step rfl (fun w₁ h₁ => ?_); refine goes_oper_k rfl rfl (by decide) (fun K hK => ?_); go_simp; refine hK _ _ ⟨dd_still (listed_nil (by simp [go_sem])), ?_⟩; clear hK K))
    refine Goes.step rfl (fun w₂ h₂ => ?_)
    rw [stepG_region_draw]
    refine ⟨⟨⟨_, rfl⟩, by simp⟩, ?_⟩
    refine Goes.mono (hreg (fun i => if i = 6 then .int .i64 I else if i = 7 then .int .i64 (I + 1) else if i = 8 then .slice (some ad) l cp else if i = 9 then .int .i64 l else if i = 10 then .bool true else J i) _ 0 (fun J' w' hS' => Goes.stop fun w₁ _ => ?_) _ _ h₂) (by omega)
    show AtSend _ _ _ _ _ (SendsR _ _ _ _ (valsP ds (k + 1) m)) _
    refine atSend_of rfl rfl (by decide) rfl rfl rfl ?_
    refine (sendsR_iff ..).2 ⟨n₁ + 8, ?_⟩
    simp only [TD, if_true]
    walk_nrm
    repeat (first | (own_ctl; refine ⟨dd_still rfl, ?_⟩) | (refine Goes.step rfl (fun w₁ h₁ => ?_); refine goes_oper_k rfl rfl (by decide) (fun K hK => ?_); go_simp; refine hK _ _ ⟨dd_still (listed_nil (by simp [go_sem])), ?_⟩; clear hK K))
    exact ih (fun i => if i = 11 then .int .i64 I else if i = 12 then .int .i64 I' else if i = 13 then .chan (some c) else if i = 14 then .slice (some ad) l cp else if i = 15 then .int .i64 I else if i = 16 then .pointer (some (pt ad I.toNat)) else if i = 17 then .int .u64 (ds[I.toNat]?.getD 0) else if i = 18 then .slice (some ad) l cp else if i = 19 then .int .i64 I else if i = 20 then .int .i64 (I + 1) else if i = 21 then .pointer (some (pt ad (I.toNat + 1))) else if i = 22 then .int .u64 (ds[I.toNat + 1]?.getD 0) else if i = 23 then .agg #[.int .u64 (ds[I.toNat]?.getD 0), .int .u64 (ds[I.toNat + 1]?.getD 0)] else J' i) _
end Go.Proofs.Ytaeaacdjiijooaa.Co
