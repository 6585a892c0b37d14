import Derived.Test.YtaeaacdjiijooaaCoC
namespace Go.Proofs.Ytaeaacdjiijooaa.Co
open Go.Conc Go.RowKit Go.Proofs.Ytaeaacdjiijooaa.Lift Go.Proofs.YtaeaacdjiijooaaW.PrintWords Go.Proofs.YtaeaacdjiijooaaW.PrintLast Go.Proofs.YtaeaacdjiijooaaW.PrintMore
set_option linter.unusedVariables false
set_option linter.unusedSimpArgs false
/-! ### a region that draws its order and ends in a communication -/
section
variable {P : Program} {main : Bool} {R : World → World → Prop} {D : World → World → Array Event → Prop} {fn : FuncId} {ops : Array Oper} {md : Region.Mode} {z : Nat}
theorem draw_walk (T : Terms R D) {I : Nat → Array Bool → Act → World → Prop} {Done : Act → World → Prop}
    (hR : ∀ f l a w w₁, I f l a w → R w w₁ → I f l a w₁) (h0 : ∀ l a w, ¬ I 0 l a w) (hne : ∀ f l a w, I (f + 1) l a w → Region.ready md ops l ≠ [])
    (hz : ∀ f l a w, I (f + 1) l a w → z ∈ Region.ready md ops l → Done a w ∧ f = 0)
    (hstep : ∀ f l a w i, I (f + 1) l a w → i ∈ Region.ready md ops l → i ≠ z → OpC P R D fn ops i (fun a' w' => I f (l.setIfInBounds i true) a' w') a w)
    {b : Frame} {k : List Item} {cs : List Frame} {Stop : Goroutine → World → Prop} {m : Nat} (hb : b.fn = fn) (hk : b.kind ≠ .early) (hD : ∀ a w, Done a w → Goes P main R D Stop m (G (b.at a (.inRegion ops [z] :: k)) cs) w) :
    ∀ (f t : Nat) (l : Array Bool) (a : Act) (w : World), I f l a w → Goes P main R D Stop (m + f) (G (b.at a (.inRegion ops (Region.linearise.go md ops f t l []) :: k)) cs) w := by
  intro f
  induction f with
  | zero => exact fun t l a w h => absurd h (h0 l a w)
  | succ f ih =>
    intro t l a w h
    simp only [Region.linearise.go]
    change Goes P main R D Stop _ (G (b.at a (.inRegion ops (match (Region.ready md ops l)[t % (Region.ready md ops l).length]? with
      | some i => Region.linearise.go md ops f (t / (Region.ready md ops l).length) (l.setIfInBounds i true) [i]
      | none => [].reverse) :: k)) cs) w
    cases hi : (Region.ready md ops l)[t % (Region.ready md ops l).length]? with
    | none =>
      exfalso
      have hn := hne f l a w h
      cases hr : Region.ready md ops l with
      | nil => exact hn hr
      | cons x xs =>
        rw [hr] at hi
        have hlt : t % (x :: xs).length < (x :: xs).length := Nat.mod_lt _ (by simp)
        rw [List.getElem?_eq_none_iff] at hi
        omega
    | some i =>
      simp only []
      rw [linearise_go_acc, List.reverse_singleton, List.singleton_append]
      have hmem := List.mem_of_getElem? hi
      by_cases hiz : i = z
      · subst hiz
        obtain ⟨hd, rfl⟩ := hz f l a w h hmem
        exact (hD a w hd).mono (by omega)
      · have ho := hstep f l a w i h hmem hiz
        unfold OpC at ho
        split at ho
        · exact ho.elim
        · rename_i o hoo
          split at ho
          · rename_i hw
            refine Goes.step rfl fun w₁ h₁ => goes_oper hoo hw hk ?_
            have := ho w₁ h₁
            revert this
            cases (execOp a.eval o).run P w₁ with
            | ok x w' => cases x <;> first | exact fun ⟨d, g⟩ => ⟨hb ▸ d, ih _ _ _ _ g⟩ | exact fun x => x
            | halt _ _ => exact fun x => x
          · rename_i hw
            refine Goes.step rfl fun w₁ h₁ => ?_
            rw [stepG_unwanted hoo (by simpa using hw)]
            exact ⟨T.idle _, (ih _ _ _ _ ho).rely T.trans h₁⟩
end
/-! ### draw.pairs -/
noncomputable def loopB : Code := match Try.f29.body with | some (.seq _ (.seq _ (.block _ (.loop x)))) => x | _ => .skip
noncomputable def opsB : Array Oper := match loopB with | .seq _ (.seq (.block _ (.region _ ops _)) _) => ops | _ => #[]
noncomputable def incB : Code := match loopB with | .seq _ (.seq _ y) => y | _ => .skip
theorem opsB_size : opsB.size = 12 := rfl
def b29 : Frame := { (default : Frame) with fn := 29, kind := .deferred }
def pt (ad : Addr) (n : Nat) : Addr := ad.add n
/-- The slots of draw.pairs while its region runs: slot 13 + k holds its value where operation k has been carried out. -/
def TD (ad : Addr) (l cp c : Nat) (i : Int) (ds : List Int) (J : Nat → Value) (b0 b1 b2 b3 b4 b5 b6 b7 b8 b9 b10 : Bool) : Array Value :=
  #[.slice (some ad) l cp, .chan (some c), J 2, J 3, .int .i64 i, J 5, J 6, J 7, J 8, J 9, J 10, J 11, J 12, if b0 then .chan (some c) else J 13, if b1 then .slice (some ad) l cp else J 14, if b2 then .int .i64 i else J 15, if b3 then .pointer (some (pt ad i.toNat)) else J 16, if b4 then .int .u64 (ds.getD i.toNat 0) else J 17, if b5 then .slice (some ad) l cp else J 18, if b6 then .int .i64 i else J 19, if b7 then .int .i64 (i + 1) else J 20, if b8 then .pointer (some (pt ad (i.toNat + 1))) else J 21, if b9 then .int .u64 (ds.getD (i.toNat + 1) 0) else J 22, if b10 then .agg #[.int .u64 (ds.getD i.toNat 0), .int .u64 (ds.getD (i.toNat + 1) 0)] else J 23]
structure CL (b0 b1 b2 b3 b4 b5 b6 b7 b8 b9 b10 : Bool) : Prop where
  c3 : b3 = true → b1 = true ∧ b2 = true
  c4 : b4 = true → b3 = true
  c7 : b7 = true → b6 = true
  c8 : b8 = true → b5 = true ∧ b7 = true
  c9 : b9 = true → b8 = true
  c10 : b10 = true → b4 = true ∧ b9 = true
/-- What is held while the region runs. -/
def ID (c B : Nat) (w0 : World) (ad : Addr) (l cp : Nat) (i : Int) (ds : List Int) (J : Nat → Value) (dd : List Deferred) (f : Nat) (lst : Array Bool) (a : Act) (w : World) : Prop :=
  ∃ b0 b1 b2 b3 b4 b5 b6 b7 b8 b9 b10 : Bool, lst = #[b0, b1, b2, b3, b4, b5, b6, b7, b8, b9, b10, false] ∧ f + (b0.toNat + b1.toNat + b2.toNat + b3.toNat + b4.toNat + b5.toNat + b6.toNat + b7.toNat + b8.toNat + b9.toNat + b10.toNat) = 12 ∧ CL b0 b1 b2 b3 b4 b5 b6 b7 b8 b9 b10 ∧ a = { tmps := TD ad l cp c i ds J b0 b1 b2 b3 b4 b5 b6 b7 b8 b9 b10, defers := dd } ∧ SB c B w0 w
theorem opC_yield {P : Program} {R : World → World → Prop} {D : World → World → Array Event → Prop} {fn : FuncId} {ops : Array Oper} {i : Nat} {o : Oper} {a : Act} {w : World} {v : Value} {K : Act → World → Prop} (hi : ops[i]? = some o) (hw : Region.wanted o (yielded ops a.tmps) = true)
    (hv : ∀ w₁, R w w₁ → (∀ K : Result Next → Prop, K (.ok (.value v) w₁) → K ((execOp a.eval o).run P w₁)) ∧ D w₁ w₁ (listed P fn a o w₁)) (hK : ∀ w₁, R w w₁ → K (a.put o.dst v) w₁) : OpC P R D fn ops i K a w := by
  unfold OpC
  simp only [hi, hw, if_true]
  intro w₁ h₁
  rw [run_eq_of (hv w₁ h₁).1]
  exact ⟨(hv w₁ h₁).2, hK w₁ h₁⟩
/-- The child's guarantee, and its rely. -/
abbrev DD (B c : Nat) : World → World → Array Event → Prop := DBr (Own (Stl B c))
abbrev RD (c B : Nat) (w0 : World) : World → World → Prop := fun _ w₁ => SB c B w0 w₁
theorem termsD (c B : Nat) (w0 : World) : Terms (RD c B w0) (DD B c) := ⟨fun _ _ _ _ h => h, fun w => ⟨atRel_refl w, by simp⟩⟩
theorem dd_still {B c : Nat} {w : World} {es : Array Event} (h : es = #[]) : DD B c w w es := ⟨atRel_refl w, by subst h; simp⟩
theorem dd_read {B c : Nat} {w : World} {es : Array Event} {a : Addr} (ha : a.block < B) (h : ∀ e ∈ es, e = ⟨.cell a, false, false⟩) : DD B c w w es := ⟨atRel_refl w, fun e he => by
  rw [h e he]
  exact ⟨fun m hm => (by cases hm), rfl, fun hn => hn (.inl ⟨a, rfl, ha⟩)⟩⟩
/-- What the sender reads, as it stood at the go statement. -/
structure Src (c B : Nat) (w0 : World) (ad : Addr) (l : Nat) (ds : List Int) : Prop where
  low : ad.block < B
  ne : ad.block ≠ c
  el : ∀ j, j < l → w0.cell? (ad.add j) = some (.int .u64 (ds.getD j 0))
theorem Src.at {c B : Nat} {w0 w : World} {ad : Addr} {l : Nat} {ds : List Int} (h : Src c B w0 ad l ds) (hS : SB c B w0 w) {j : Nat} (hj : j < l) : w.cell? (ad.add j) = some (.int .u64 (ds.getD j 0)) := by
  rw [← h.el j hj]
  exact World.cell?_of_block (hS _ (by rw [Go.addBlock]; exact h.low) (by rw [Go.addBlock]; exact h.ne))
set_option maxHeartbeats 4000000 in
set_option maxRecDepth 100000 in
theorem step_D (c B : Nat) (w0 : World) (ad : Addr) (l cp : Nat) (i : Int) (ds : List Int) (J : Nat → Value) (dd : List Deferred) (hc : Src c B w0 ad l ds) (h0 : 0 ≤ i) (h1 : i + 1 < l) (hl : l ≤ 4096) :
    ∀ f lst a w j, ID c B w0 ad l cp i ds J dd (f + 1) lst a w → j ∈ Region.ready .any opsB lst → j ≠ 11 → OpC Try.prog (RD c B w0) (DD B c) 29 opsB j (fun a' w' => ID c B w0 ad l cp i ds J dd f (lst.setIfInBounds j true) a' w') a w := by
  have hu35 := Try.underlying35
  have hu64 := Try.underlying64
  have hw1 : IntKind.i64.wrap (i + 1) = i + 1 := by rw [IntKind.wrap_i64]; omega
  have hi0 : i < (l : Int) := by omega
  have hi1 : 0 ≤ i + 1 := by omega
  have ht1 : (i + 1).toNat = i.toNat + 1 := by omega
  rintro f lst a w j ⟨b0, b1, b2, b3, b4, b5, b6, b7, b8, b9, b10, rfl, hf, hcl, rfl, hS⟩ hj hne
  obtain ⟨hun, o, ho, hall⟩ := mem_ready.1 hj
  have hj12 : j < 12 := (Array.getElem?_eq_some_iff.1 ho).1
  have hjj : j = 0 ∨ j = 1 ∨ j = 2 ∨ j = 3 ∨ j = 4 ∨ j = 5 ∨ j = 6 ∨ j = 7 ∨ j = 8 ∨ j = 9 ∨ j = 10 := by omega
  rcases hjj with rfl | rfl | rfl | rfl | rfl | rfl | rfl | rfl | rfl | rfl | rfl
  · have hbk : b0 = false := by simpa using hun
    subst hbk
    refine opC_yield (o := opsB.getD 0 default) (v := .chan (some c)) rfl rfl (fun w₁ h₁ => ⟨fun K hK => ?_, ?_⟩) (fun w₁ h₁ => ⟨true, b1, b2, b3, b4, b5, b6, b7, b8, b9, b10, rfl, ?_, ?_, rfl, h₁⟩)
    · simp only [opsB, loopB, Try.f29, TD]
      go_simp
      exact hK
    · simp only [opsB, loopB, Try.f29]
      exact dd_still (listed_nil (by simp [go_sem, TD]))
    · simp at hf ⊢; omega
    · exact ⟨(by first | exact hcl.c3 | exact fun _ => rfl | exact fun _ => ⟨rfl, rfl⟩ | exact fun h => (by have h2 := hcl.c3 h; simp at h2)) , (by first | exact hcl.c4 | exact fun _ => rfl | exact fun _ => ⟨rfl, rfl⟩ | exact fun h => (by have h2 := hcl.c4 h; simp at h2)) , (by first | exact hcl.c7 | exact fun _ => rfl | exact fun _ => ⟨rfl, rfl⟩ | exact fun h => (by have h2 := hcl.c7 h; simp at h2)) , (by first | exact hcl.c8 | exact fun _ => rfl | exact fun _ => ⟨rfl, rfl⟩ | exact fun h => (by have h2 := hcl.c8 h; simp at h2)) , (by first | exact hcl.c9 | exact fun _ => rfl | exact fun _ => ⟨rfl, rfl⟩ | exact fun h => (by have h2 := hcl.c9 h; simp at h2)) , (by first | exact hcl.c10 | exact fun _ => rfl | exact fun _ => ⟨rfl, rfl⟩ | exact fun h => (by have h2 := hcl.c10 h; simp at h2))⟩
  · have hbk : b1 = false := by simpa using hun
    subst hbk
    refine opC_yield (o := opsB.getD 1 default) (v := .slice (some ad) l cp) rfl rfl (fun w₁ h₁ => ⟨fun K hK => ?_, ?_⟩) (fun w₁ h₁ => ⟨b0, true, b2, b3, b4, b5, b6, b7, b8, b9, b10, rfl, ?_, ?_, rfl, h₁⟩)
    · simp only [opsB, loopB, Try.f29, TD]
      go_simp
      exact hK
    · simp only [opsB, loopB, Try.f29]
      exact dd_still (listed_nil (by simp [go_sem, TD]))
    · simp at hf ⊢; omega
    · exact ⟨(by first | exact hcl.c3 | exact fun _ => rfl | exact fun _ => ⟨rfl, rfl⟩ | exact fun h => (by have h2 := hcl.c3 h; simp at h2)) , (by first | exact hcl.c4 | exact fun _ => rfl | exact fun _ => ⟨rfl, rfl⟩ | exact fun h => (by have h2 := hcl.c4 h; simp at h2)) , (by first | exact hcl.c7 | exact fun _ => rfl | exact fun _ => ⟨rfl, rfl⟩ | exact fun h => (by have h2 := hcl.c7 h; simp at h2)) , (by first | exact hcl.c8 | exact fun _ => rfl | exact fun _ => ⟨rfl, rfl⟩ | exact fun h => (by have h2 := hcl.c8 h; simp at h2)) , (by first | exact hcl.c9 | exact fun _ => rfl | exact fun _ => ⟨rfl, rfl⟩ | exact fun h => (by have h2 := hcl.c9 h; simp at h2)) , (by first | exact hcl.c10 | exact fun _ => rfl | exact fun _ => ⟨rfl, rfl⟩ | exact fun h => (by have h2 := hcl.c10 h; simp at h2))⟩
  · have hbk : b2 = false := by simpa using hun
    subst hbk
    refine opC_yield (o := opsB.getD 2 default) (v := .int .i64 i) rfl rfl (fun w₁ h₁ => ⟨fun K hK => ?_, ?_⟩) (fun w₁ h₁ => ⟨b0, b1, true, b3, b4, b5, b6, b7, b8, b9, b10, rfl, ?_, ?_, rfl, h₁⟩)
    · simp only [opsB, loopB, Try.f29, TD]
      go_simp
      exact hK
    · simp only [opsB, loopB, Try.f29]
      exact dd_still (listed_nil (by simp [go_sem, TD]))
    · simp at hf ⊢; omega
    · exact ⟨(by first | exact hcl.c3 | exact fun _ => rfl | exact fun _ => ⟨rfl, rfl⟩ | exact fun h => (by have h2 := hcl.c3 h; simp at h2)) , (by first | exact hcl.c4 | exact fun _ => rfl | exact fun _ => ⟨rfl, rfl⟩ | exact fun h => (by have h2 := hcl.c4 h; simp at h2)) , (by first | exact hcl.c7 | exact fun _ => rfl | exact fun _ => ⟨rfl, rfl⟩ | exact fun h => (by have h2 := hcl.c7 h; simp at h2)) , (by first | exact hcl.c8 | exact fun _ => rfl | exact fun _ => ⟨rfl, rfl⟩ | exact fun h => (by have h2 := hcl.c8 h; simp at h2)) , (by first | exact hcl.c9 | exact fun _ => rfl | exact fun _ => ⟨rfl, rfl⟩ | exact fun h => (by have h2 := hcl.c9 h; simp at h2)) , (by first | exact hcl.c10 | exact fun _ => rfl | exact fun _ => ⟨rfl, rfl⟩ | exact fun h => (by have h2 := hcl.c10 h; simp at h2))⟩
  · have hbk : b3 = false := by simpa using hun
    subst hbk
    have hdep : b1 = true ∧ b2 = true := by simpa [opsB, loopB, Try.f29, Region.binds] using (show ∀ e ∈ (opsB.getD 3 default).after, Region.binds .any e = true → _ from fun e he hb => hall e (by have : o = opsB.getD 3 default := (Option.some.inj ho).symm; rw [this]; exact he) hb)
    obtain ⟨rfl, rfl⟩ := hdep
    refine opC_yield (o := opsB.getD 3 default) (v := .pointer (some (pt ad i.toNat))) rfl rfl (fun w₁ h₁ => ⟨fun K hK => ?_, ?_⟩) (fun w₁ h₁ => ⟨b0, true, true, true, b4, b5, b6, b7, b8, b9, b10, rfl, ?_, ?_, rfl, h₁⟩)
    · simp only [opsB, loopB, Try.f29, TD]
      go_simp
      exact hK
    · simp only [opsB, loopB, Try.f29]
      exact dd_still (listed_nil (by simp [go_sem, TD, hi0, hi1, h0, h1, hw1]))
    · simp at hf ⊢; omega
    · exact ⟨(by first | exact hcl.c3 | exact fun _ => rfl | exact fun _ => ⟨rfl, rfl⟩ | exact fun h => (by have h2 := hcl.c3 h; simp at h2)) , (by first | exact hcl.c4 | exact fun _ => rfl | exact fun _ => ⟨rfl, rfl⟩ | exact fun h => (by have h2 := hcl.c4 h; simp at h2)) , (by first | exact hcl.c7 | exact fun _ => rfl | exact fun _ => ⟨rfl, rfl⟩ | exact fun h => (by have h2 := hcl.c7 h; simp at h2)) , (by first | exact hcl.c8 | exact fun _ => rfl | exact fun _ => ⟨rfl, rfl⟩ | exact fun h => (by have h2 := hcl.c8 h; simp at h2)) , (by first | exact hcl.c9 | exact fun _ => rfl | exact fun _ => ⟨rfl, rfl⟩ | exact fun h => (by have h2 := hcl.c9 h; simp at h2)) , (by first | exact hcl.c10 | exact fun _ => rfl | exact fun _ => ⟨rfl, rfl⟩ | exact fun h => (by have h2 := hcl.c10 h; simp at h2))⟩
  · have hbk : b4 = false := by simpa using hun
    subst hbk
    have hdep : b3 = true := by simpa [opsB, loopB, Try.f29, Region.binds] using (show ∀ e ∈ (opsB.getD 4 default).after, Region.binds .any e = true → _ from fun e he hb => hall e (by have : o = opsB.getD 4 default := (Option.some.inj ho).symm; rw [this]; exact he) hb)
    obtain ⟨rfl⟩ := hdep
    refine opC_yield (o := opsB.getD 4 default) (v := .int .u64 (ds.getD i.toNat 0)) rfl rfl (fun w₁ h₁ => ⟨fun K hK => ?_, ?_⟩) (fun w₁ h₁ => ⟨b0, b1, b2, true, true, b5, b6, b7, b8, b9, b10, rfl, ?_, ?_, rfl, h₁⟩)
    · have hcell : w₁.cell? (pt ad i.toNat) = _ := hc.at h₁ (j := i.toNat) (by omega); simp only [opsB, loopB, Try.f29, TD]
      go_simp
      exact hK
    · have hcell : w₁.cell? (pt ad i.toNat) = _ := hc.at h₁ (j := i.toNat) (by omega); simp only [opsB, loopB, Try.f29]
      exact dd_read (a := pt ad i.toNat) (by show (ad.add _).block < B; rw [Go.addBlock]; exact hc.low) (fun e he => by have hm := mem_listed he; simp [go_sem, TD, hcell] at hm; exact hm)
    · simp at hf ⊢; omega
    · exact ⟨(by first | exact hcl.c3 | exact fun _ => rfl | exact fun _ => ⟨rfl, rfl⟩ | exact fun h => (by have h2 := hcl.c3 h; simp at h2)) , (by first | exact hcl.c4 | exact fun _ => rfl | exact fun _ => ⟨rfl, rfl⟩ | exact fun h => (by have h2 := hcl.c4 h; simp at h2)) , (by first | exact hcl.c7 | exact fun _ => rfl | exact fun _ => ⟨rfl, rfl⟩ | exact fun h => (by have h2 := hcl.c7 h; simp at h2)) , (by first | exact hcl.c8 | exact fun _ => rfl | exact fun _ => ⟨rfl, rfl⟩ | exact fun h => (by have h2 := hcl.c8 h; simp at h2)) , (by first | exact hcl.c9 | exact fun _ => rfl | exact fun _ => ⟨rfl, rfl⟩ | exact fun h => (by have h2 := hcl.c9 h; simp at h2)) , (by first | exact hcl.c10 | exact fun _ => rfl | exact fun _ => ⟨rfl, rfl⟩ | exact fun h => (by have h2 := hcl.c10 h; simp at h2))⟩
  · have hbk : b5 = false := by simpa using hun
    subst hbk
    refine opC_yield (o := opsB.getD 5 default) (v := .slice (some ad) l cp) rfl rfl (fun w₁ h₁ => ⟨fun K hK => ?_, ?_⟩) (fun w₁ h₁ => ⟨b0, b1, b2, b3, b4, true, b6, b7, b8, b9, b10, rfl, ?_, ?_, rfl, h₁⟩)
    · simp only [opsB, loopB, Try.f29, TD]
      go_simp
      exact hK
    · simp only [opsB, loopB, Try.f29]
      exact dd_still (listed_nil (by simp [go_sem, TD]))
    · simp at hf ⊢; omega
    · exact ⟨(by first | exact hcl.c3 | exact fun _ => rfl | exact fun _ => ⟨rfl, rfl⟩ | exact fun h => (by have h2 := hcl.c3 h; simp at h2)) , (by first | exact hcl.c4 | exact fun _ => rfl | exact fun _ => ⟨rfl, rfl⟩ | exact fun h => (by have h2 := hcl.c4 h; simp at h2)) , (by first | exact hcl.c7 | exact fun _ => rfl | exact fun _ => ⟨rfl, rfl⟩ | exact fun h => (by have h2 := hcl.c7 h; simp at h2)) , (by first | exact hcl.c8 | exact fun _ => rfl | exact fun _ => ⟨rfl, rfl⟩ | exact fun h => (by have h2 := hcl.c8 h; simp at h2)) , (by first | exact hcl.c9 | exact fun _ => rfl | exact fun _ => ⟨rfl, rfl⟩ | exact fun h => (by have h2 := hcl.c9 h; simp at h2)) , (by first | exact hcl.c10 | exact fun _ => rfl | exact fun _ => ⟨rfl, rfl⟩ | exact fun h => (by have h2 := hcl.c10 h; simp at h2))⟩
  · have hbk : b6 = false := by simpa using hun
    subst hbk
    refine opC_yield (o := opsB.getD 6 default) (v := .int .i64 i) rfl rfl (fun w₁ h₁ => ⟨fun K hK => ?_, ?_⟩) (fun w₁ h₁ => ⟨b0, b1, b2, b3, b4, b5, true, b7, b8, b9, b10, rfl, ?_, ?_, rfl, h₁⟩)
    · simp only [opsB, loopB, Try.f29, TD]
      go_simp
      exact hK
    · simp only [opsB, loopB, Try.f29]
      exact dd_still (listed_nil (by simp [go_sem, TD]))
    · simp at hf ⊢; omega
    · exact ⟨(by first | exact hcl.c3 | exact fun _ => rfl | exact fun _ => ⟨rfl, rfl⟩ | exact fun h => (by have h2 := hcl.c3 h; simp at h2)) , (by first | exact hcl.c4 | exact fun _ => rfl | exact fun _ => ⟨rfl, rfl⟩ | exact fun h => (by have h2 := hcl.c4 h; simp at h2)) , (by first | exact hcl.c7 | exact fun _ => rfl | exact fun _ => ⟨rfl, rfl⟩ | exact fun h => (by have h2 := hcl.c7 h; simp at h2)) , (by first | exact hcl.c8 | exact fun _ => rfl | exact fun _ => ⟨rfl, rfl⟩ | exact fun h => (by have h2 := hcl.c8 h; simp at h2)) , (by first | exact hcl.c9 | exact fun _ => rfl | exact fun _ => ⟨rfl, rfl⟩ | exact fun h => (by have h2 := hcl.c9 h; simp at h2)) , (by first | exact hcl.c10 | exact fun _ => rfl | exact fun _ => ⟨rfl, rfl⟩ | exact fun h => (by have h2 := hcl.c10 h; simp at h2))⟩
  · have hbk : b7 = false := by simpa using hun
    subst hbk
    have hdep : b6 = true := by simpa [opsB, loopB, Try.f29, Region.binds] using (show ∀ e ∈ (opsB.getD 7 default).after, Region.binds .any e = true → _ from fun e he hb => hall e (by have : o = opsB.getD 7 default := (Option.some.inj ho).symm; rw [this]; exact he) hb)
    obtain ⟨rfl⟩ := hdep
    refine opC_yield (o := opsB.getD 7 default) (v := .int .i64 (i + 1)) rfl rfl (fun w₁ h₁ => ⟨fun K hK => ?_, ?_⟩) (fun w₁ h₁ => ⟨b0, b1, b2, b3, b4, b5, true, true, b8, b9, b10, rfl, ?_, ?_, rfl, h₁⟩)
    · simp only [opsB, loopB, Try.f29, TD]
      go_simp
      exact hK
    · simp only [opsB, loopB, Try.f29]
      exact dd_still (listed_nil (by simp [go_sem, TD]))
    · simp at hf ⊢; omega
    · exact ⟨(by first | exact hcl.c3 | exact fun _ => rfl | exact fun _ => ⟨rfl, rfl⟩ | exact fun h => (by have h2 := hcl.c3 h; simp at h2)) , (by first | exact hcl.c4 | exact fun _ => rfl | exact fun _ => ⟨rfl, rfl⟩ | exact fun h => (by have h2 := hcl.c4 h; simp at h2)) , (by first | exact hcl.c7 | exact fun _ => rfl | exact fun _ => ⟨rfl, rfl⟩ | exact fun h => (by have h2 := hcl.c7 h; simp at h2)) , (by first | exact hcl.c8 | exact fun _ => rfl | exact fun _ => ⟨rfl, rfl⟩ | exact fun h => (by have h2 := hcl.c8 h; simp at h2)) , (by first | exact hcl.c9 | exact fun _ => rfl | exact fun _ => ⟨rfl, rfl⟩ | exact fun h => (by have h2 := hcl.c9 h; simp at h2)) , (by first | exact hcl.c10 | exact fun _ => rfl | exact fun _ => ⟨rfl, rfl⟩ | exact fun h => (by have h2 := hcl.c10 h; simp at h2))⟩
  · have hbk : b8 = false := by simpa using hun
    subst hbk
    have hdep : b5 = true ∧ b7 = true := by simpa [opsB, loopB, Try.f29, Region.binds] using (show ∀ e ∈ (opsB.getD 8 default).after, Region.binds .any e = true → _ from fun e he hb => hall e (by have : o = opsB.getD 8 default := (Option.some.inj ho).symm; rw [this]; exact he) hb)
    obtain ⟨rfl, rfl⟩ := hdep
    refine opC_yield (o := opsB.getD 8 default) (v := .pointer (some (pt ad (i.toNat + 1)))) rfl rfl (fun w₁ h₁ => ⟨fun K hK => ?_, ?_⟩) (fun w₁ h₁ => ⟨b0, b1, b2, b3, b4, true, b6, true, true, b9, b10, rfl, ?_, ?_, rfl, h₁⟩)
    · simp only [opsB, loopB, Try.f29, TD]
      go_simp
      exact hK
    · simp only [opsB, loopB, Try.f29]
      exact dd_still (listed_nil (by simp [go_sem, TD, hi0, hi1, h0, h1, hw1]))
    · simp at hf ⊢; omega
    · exact ⟨(by first | exact hcl.c3 | exact fun _ => rfl | exact fun _ => ⟨rfl, rfl⟩ | exact fun h => (by have h2 := hcl.c3 h; simp at h2)) , (by first | exact hcl.c4 | exact fun _ => rfl | exact fun _ => ⟨rfl, rfl⟩ | exact fun h => (by have h2 := hcl.c4 h; simp at h2)) , (by first | exact hcl.c7 | exact fun _ => rfl | exact fun _ => ⟨rfl, rfl⟩ | exact fun h => (by have h2 := hcl.c7 h; simp at h2)) , (by first | exact hcl.c8 | exact fun _ => rfl | exact fun _ => ⟨rfl, rfl⟩ | exact fun h => (by have h2 := hcl.c8 h; simp at h2)) , (by first | exact hcl.c9 | exact fun _ => rfl | exact fun _ => ⟨rfl, rfl⟩ | exact fun h => (by have h2 := hcl.c9 h; simp at h2)) , (by first | exact hcl.c10 | exact fun _ => rfl | exact fun _ => ⟨rfl, rfl⟩ | exact fun h => (by have h2 := hcl.c10 h; simp at h2))⟩
  · have hbk : b9 = false := by simpa using hun
    subst hbk
    have hdep : b8 = true := by simpa [opsB, loopB, Try.f29, Region.binds] using (show ∀ e ∈ (opsB.getD 9 default).after, Region.binds .any e = true → _ from fun e he hb => hall e (by have : o = opsB.getD 9 default := (Option.some.inj ho).symm; rw [this]; exact he) hb)
    obtain ⟨rfl⟩ := hdep
    refine opC_yield (o := opsB.getD 9 default) (v := .int .u64 (ds.getD (i.toNat + 1) 0)) rfl rfl (fun w₁ h₁ => ⟨fun K hK => ?_, ?_⟩) (fun w₁ h₁ => ⟨b0, b1, b2, b3, b4, b5, b6, b7, true, true, b10, rfl, ?_, ?_, rfl, h₁⟩)
    · have hcell : w₁.cell? (pt ad (i.toNat + 1)) = _ := hc.at h₁ (j := i.toNat + 1) (by omega); simp only [opsB, loopB, Try.f29, TD]
      go_simp
      exact hK
    · have hcell : w₁.cell? (pt ad (i.toNat + 1)) = _ := hc.at h₁ (j := i.toNat + 1) (by omega); simp only [opsB, loopB, Try.f29]
      exact dd_read (a := pt ad (i.toNat + 1)) (by show (ad.add _).block < B; rw [Go.addBlock]; exact hc.low) (fun e he => by have hm := mem_listed he; simp [go_sem, TD, hcell] at hm; exact hm)
    · simp at hf ⊢; omega
    · exact ⟨(by first | exact hcl.c3 | exact fun _ => rfl | exact fun _ => ⟨rfl, rfl⟩ | exact fun h => (by have h2 := hcl.c3 h; simp at h2)) , (by first | exact hcl.c4 | exact fun _ => rfl | exact fun _ => ⟨rfl, rfl⟩ | exact fun h => (by have h2 := hcl.c4 h; simp at h2)) , (by first | exact hcl.c7 | exact fun _ => rfl | exact fun _ => ⟨rfl, rfl⟩ | exact fun h => (by have h2 := hcl.c7 h; simp at h2)) , (by first | exact hcl.c8 | exact fun _ => rfl | exact fun _ => ⟨rfl, rfl⟩ | exact fun h => (by have h2 := hcl.c8 h; simp at h2)) , (by first | exact hcl.c9 | exact fun _ => rfl | exact fun _ => ⟨rfl, rfl⟩ | exact fun h => (by have h2 := hcl.c9 h; simp at h2)) , (by first | exact hcl.c10 | exact fun _ => rfl | exact fun _ => ⟨rfl, rfl⟩ | exact fun h => (by have h2 := hcl.c10 h; simp at h2))⟩
  · have hbk : b10 = false := by simpa using hun
    subst hbk
    have hdep : b4 = true ∧ b9 = true := by simpa [opsB, loopB, Try.f29, Region.binds] using (show ∀ e ∈ (opsB.getD 10 default).after, Region.binds .any e = true → _ from fun e he hb => hall e (by have : o = opsB.getD 10 default := (Option.some.inj ho).symm; rw [this]; exact he) hb)
    obtain ⟨rfl, rfl⟩ := hdep
    refine opC_yield (o := opsB.getD 10 default) (v := .agg #[.int .u64 (ds.getD i.toNat 0), .int .u64 (ds.getD (i.toNat + 1) 0)]) rfl rfl (fun w₁ h₁ => ⟨fun K hK => ?_, ?_⟩) (fun w₁ h₁ => ⟨b0, b1, b2, b3, true, b5, b6, b7, b8, true, true, rfl, ?_, ?_, rfl, h₁⟩)
    · simp only [opsB, loopB, Try.f29, TD]
      go_simp
      exact hK
    · simp only [opsB, loopB, Try.f29]
      exact dd_still (listed_nil (by simp [go_sem, TD]))
    · simp at hf ⊢; omega
    · exact ⟨(by first | exact hcl.c3 | exact fun _ => rfl | exact fun _ => ⟨rfl, rfl⟩ | exact fun h => (by have h2 := hcl.c3 h; simp at h2)) , (by first | exact hcl.c4 | exact fun _ => rfl | exact fun _ => ⟨rfl, rfl⟩ | exact fun h => (by have h2 := hcl.c4 h; simp at h2)) , (by first | exact hcl.c7 | exact fun _ => rfl | exact fun _ => ⟨rfl, rfl⟩ | exact fun h => (by have h2 := hcl.c7 h; simp at h2)) , (by first | exact hcl.c8 | exact fun _ => rfl | exact fun _ => ⟨rfl, rfl⟩ | exact fun h => (by have h2 := hcl.c8 h; simp at h2)) , (by first | exact hcl.c9 | exact fun _ => rfl | exact fun _ => ⟨rfl, rfl⟩ | exact fun h => (by have h2 := hcl.c9 h; simp at h2)) , (by first | exact hcl.c10 | exact fun _ => rfl | exact fun _ => ⟨rfl, rfl⟩ | exact fun h => (by have h2 := hcl.c10 h; simp at h2))⟩
end Go.Proofs.Ytaeaacdjiijooaa.Co
