/- The contract of tag.MayId, in the print's form. -/
import Derived.Test.YtfijhbfdkcajjaaGreatDoorWithin
import Derived.LoopTactic
import Derived.RangeFuncRecord
namespace Go.Proofs.YtfijhbfdkcajjaaGreatDoor.Pr
open Go.RowKit Go.Proofs.YtfijhbfdkcajjaaGreatDoorW.PrintWords Go.Proofs.YtfijhbfdkcajjaaGreatDoorW.PrintLast Go.Proofs.YtfijhbfdkcajjaaGreatDoorW.PrintMore
set_option linter.unusedVariables false
set_option linter.unusedSimpArgs false

theorem next_gen {P : Program} (W : World) (B : Nat) (s : ByteArray) (pos : Nat) (ty : TypeId) (hB : W.heap[B]? = some (.stringIter s pos)) (h : pos < s.size) :
    (Instr.next (.pointer (some ⟨B, 0, none⟩)) true ty).run P W = .ok (.tuple #[.bool true, .int .i64 pos, .int .i32 (Utf8.decode s pos).1]) (W.putObj B (.stringIter s (pos + (Utf8.decode s pos).2))) := by
  simp only [Instr.next, getObj, setObj, Sem.run_bind, Sem.run, hB, Result.andThen, h, if_true]
  simp [goInt, World.putObj]
theorem next_gen_end {P : Program} (W : World) (B : Nat) (s : ByteArray) (pos : Nat) (ty : TypeId) (hB : W.heap[B]? = some (.stringIter s pos)) (h : ¬ pos < s.size) :
    (Instr.next (.pointer (some ⟨B, 0, none⟩)) true ty).run P W = .ok (.tuple #[.bool false]) W := by
  simp [Instr.next, getObj, Sem.run, hB, h]
theorem runeOk_decode (s : ByteArray) (p : Nat) : RuneOk ((Utf8.decode s p).1 : Int) := by
  have hb0 := byte_lt s p
  have hb1 := byte_lt s (p + 1)
  have hb2 := byte_lt s (p + 2)
  have hb3 := byte_lt s (p + 3)
  rw [show Utf8.decode s p = _ from Lib.decode_at s p]
  generalize (s.get! p).toNat = b0 at hb0 ⊢
  generalize (s.get! (p + 1)).toNat = b1 at hb1 ⊢
  generalize (s.get! (p + 2)).toNat = b2 at hb2 ⊢
  generalize (s.get! (p + 3)).toNat = b3 at hb3 ⊢
  unfold RuneOk Lib.decodeN
  repeat' split
  all_goals (simp only; omega)
def tag_MayId.f (s : ByteArray) : Option Bool := if s.size ≤ 1000 then some (mayIdB s) else none
theorem putObj_below' {n0 D : Nat} {V : World} {o : Obj} (h : n0 ≤ D) : Below n0 V (V.putObj D o) := ⟨rfl, rfl, rfl, by simp, fun k hk => World.putObj_heap_other (by omega)⟩
theorem putObj_same {D : Nat} {V : World} {o : Obj} (h : D < V.heap.size) : (V.putObj D o).heap[D]? = some o := by
  show (V.heap.setIfInBounds D o)[D]? = some o
  simp [h]
set_option maxHeartbeats 4000000 in
set_option maxRecDepth 100000 in
theorem tag_MayId.calls (s : ByteArray) (r : Bool) (w : World) (hGT : GTab w) (h : tag_MayId.f s = some r) :
    Calls Tryz.prog 45 #[.string s] w fun e w' => e = .returned (.bool r) ∧ Below w.heap.size w w' := by
  have hs : s.size ≤ 1000 := by
    unfold tag_MayId.f at h
    by_cases c : s.size ≤ 1000
    · exact c
    · rw [if_neg c] at h; cases h
  rw [tag_MayId.f, if_pos hs] at h
  have h := Option.some.inj h
  have hcount : ∀ W, Calls Tryz.prog 62 #[.string s] W fun e w' => e = .returned (.int .i64 (Lib.runeCount s)) ∧ Below W.heap.size W w' := fun W =>
    (Any.utf8_RuneCountInString Tryz.laysCount s W (by omega)).mono fun e w' ⟨he, pos, hw⟩ => ⟨he, by rw [hw]; exact below_iter W s pos⟩
  have hvalid : ∀ W, GTab W → Calls Tryz.prog 63 #[.string s] W fun e w' => e = .returned (.bool (Lib.validD s.data.toList)) ∧ Below W.heap.size W w' := fun W hT =>
    Any.utf8_ValidString Tryz.laysValid s W (by omega) hT.1
  have HG := Aside0.mk hGT
  clear hGT
  unfold mayIdB at h
  have HW := fun W n hn => within_calls n hn W
  generalize hn : Lib.runeCount s = n at h hcount
  clear hn
  by_cases c1 : n < 1
  · have d1 : decide ((n : Int) < 1) = true := decide_eq_true (by omega)
    have e : r = false := by rw [← h]; simp; omega
    subst e
    go_enter Tryz.func45, Tryz.ntmps45
    go_wp2_with (go_at_call 62; refine (hcount _).mono ?_; rintro e w1 ⟨rfl, hb1⟩)
    go_ret
    exact ⟨rfl, hb1⟩
  · have d1 : decide ((n : Int) < 1) = false := decide_eq_false (by omega)
    by_cases c2 : 24 < n
    · have d2 : decide ((24 : Int) < (n : Int)) = true := decide_eq_true (by omega)
      have e : r = false := by rw [← h]; simp; omega
      subst e
      go_enter Tryz.func45, Tryz.ntmps45
      go_wp2_with (go_at_call 62; refine (hcount _).mono ?_; rintro e w1 ⟨rfl, hb1⟩)
      go_ret
      exact ⟨rfl, hb1⟩
    · have d2 : decide ((24 : Int) < (n : Int)) = false := decide_eq_false (by omega)
      cases hv : Lib.validD s.data.toList with
      | false =>
        rw [hv] at h hvalid
        have e : r = false := by rw [← h]; simp
        subst e
        go_enter Tryz.func45, Tryz.ntmps45
        go_wp2_with (first | (go_at_call 62; refine (hcount _).mono ?_; rintro e w1 ⟨rfl, hb1⟩; have HB1 := Aside0.mk hb1; clear hb1) | (go_at_call 63; refine (hvalid _ (GTab.below HG.out HB1.out)).mono ?_; rintro e w2 ⟨rfl, hb2⟩; have HB2 := Aside0.mk (HB1.out.trans (hb2.mono HB1.out.size)); clear hb2))
        go_ret
        exact ⟨rfl, HB2.out⟩
      | true =>
        rw [hv] at h hvalid
        have hr : r = allW s s.size 0 := by rw [← h]; simp; omega
        clear h hv
        have HR := Aside0.mk hr
        clear hr
        go_enter Tryz.func45, Tryz.ntmps45
        go_wp2_with (first | (go_at_call 62; refine (hcount _).mono ?_; rintro e w1 ⟨rfl, hb1⟩; have HB1 := Aside0.mk hb1; clear hb1) | (go_at_call 63; refine (hvalid _ (GTab.below HG.out HB1.out)).mono ?_; rintro e w2 ⟨rfl, hb2⟩; have HB2 := Aside0.mk (HB1.out.trans (hb2.mono HB1.out.size)); clear hb2))
        clear hcount hvalid
        go_loopw [5] (fun v5 wr => ∃ pos f : Nat, Aside0 (Below w.heap.size w wr) ∧ Aside0 (wr.heap[w2.heap.size]? = some (.stringIter s pos)) ∧ Aside0 (r = allW s f pos) ∧ s.size ≤ pos + f) (fun _ wr => s.size - wr.iterPos w2.heap.size)
        case atStart => exact ⟨0, s.size, ⟨HB2.out.trans ((below_iter w2 s 0).mono HB2.out.size)⟩, ⟨World.iter_heap w2 s 0⟩, HR, by omega⟩
        case round =>
          obtain ⟨pos, f, HB, HI, HA, hf⟩ := hrel
          have hwb : w.heap.size ≤ w2.heap.size := HB2.out.size
          have hlt : w2.heap.size < wr.heap.size := (Array.getElem?_eq_some_iff.1 HI.out).1
          by_cases hp : pos < s.size
          · have hnx : ∀ ty, (Instr.next (.pointer (some ⟨w2.heap.size, 0, none⟩)) true ty).run Tryz.prog wr = _ := fun ty => next_gen wr w2.heap.size s pos ty HI.out hp
            obtain ⟨W3, hW3⟩ : ∃ W3, W3 = wr.putObj w2.heap.size (.stringIter s (pos + (Utf8.decode s pos).2)) := ⟨_, rfl⟩
            rw [← hW3] at hnx
            have HB3 : Aside0 (Below w.heap.size w W3) := ⟨by rw [hW3]; exact HB.out.trans (putObj_below' hwb)⟩
            have HI3 : Aside0 (W3.heap[w2.heap.size]? = some (.stringIter s (pos + (Utf8.decode s pos).2))) := ⟨by rw [hW3]; exact putObj_same hlt⟩
            have hcon := HW W3 (Utf8.decode s pos).1 (runeOk_decode s pos)
            have hwd := Lib.decode_width_pos s pos hp
            obtain ⟨g, rfl⟩ : ∃ g, f = g + 1 := ⟨f - 1, by omega⟩
            have hA := HA.out
            rw [allW, if_pos hp] at hA
            have HM : Aside0 (s.size - wr.iterPos w2.heap.size = s.size - pos) := ⟨by simp [World.iterPos, HI.out]⟩
            clear hW3
            generalize (Utf8.decode s pos).1 = c at hnx hcon hA
            generalize (Utf8.decode s pos).2 = wd at hwd HI3 hA
            cases hwi : withinB c with
            | false =>
              rw [hwi, Bool.false_and] at hA
              rw [hwi] at hcon
              subst hA
              go_wp2_with (go_at_call 64; refine hcon.mono ?_; rintro e w4 ⟨rfl, hb4⟩)
              go_ret
              exact ⟨rfl, HB3.out.trans (hb4.mono HB3.out.size)⟩
            | true =>
              rw [hwi, Bool.true_and] at hA
              rw [hwi] at hcon
              have HA2 := Aside0.mk hA
              clear hA HA
              go_wp2_with (go_at_call 64; refine hcon.mono ?_; rintro e w4 ⟨rfl, hb4⟩)
              have HI4 : w4.heap[w2.heap.size]? = some (.stringIter s (pos + wd)) := (hb4.block _ ((Array.getElem?_eq_some_iff.1 HI3.out).1)).trans HI3.out
              go_roundw
              case rel => exact ⟨pos + wd, g, ⟨HB3.out.trans (hb4.mono HB3.out.size)⟩, ⟨HI4⟩, HA2, by omega⟩
              case measure =>
                have e4 : w4.iterPos w2.heap.size = pos + wd := by simp [World.iterPos, HI4]
                have := HM.out
                show s.size - w4.iterPos w2.heap.size < s.size - wr.iterPos w2.heap.size
                rw [e4, this]; omega
          · have hnx : ∀ ty, (Instr.next (.pointer (some ⟨w2.heap.size, 0, none⟩)) true ty).run Tryz.prog wr = _ := fun ty => next_gen_end wr w2.heap.size s pos ty HI.out hp
            have e : r = true := by
              rw [HA.out]
              cases f with
              | zero => rfl
              | succ f => rw [allW, if_neg hp]
            subst e
            go_wp2
            go_ret
            exact ⟨rfl, HB.out⟩
end Go.Proofs.YtfijhbfdkcajjaaGreatDoor.Pr
