/- The walk of WorldNil's law. Written by mk_nillaw.py. -/
import Derived.Test.YtpgkmjbfmmjjnaaGreatDoorNil
namespace Go.Proofs.YtpgkmjbfmmjjnaaGreatDoor.Pr
open Go.RowKit Go.Proofs.YtpgkmjbfmmjjnaaGreatDoorW.PrintWords Go.Proofs.YtpgkmjbfmmjjnaaGreatDoorW.PrintLast Go.Proofs.YtpgkmjbfmmjjnaaGreatDoorW.PrintMore
set_option linter.unusedVariables false
set_option linter.unusedSimpArgs false
set_option maxHeartbeats 8000000 in
set_option maxRecDepth 100000 in
theorem law_calls (w : World) (q : Ev) : Calls Tryz.prog 4 #[.agg #[.int .u8 q.f0, .int .i64 q.f1, .int .i64 q.f2, .int .i64 q.f3, .int .i64 q.f4, .string q.f5, .string q.f6, .int .u64 q.f7, .int .u64 q.f8, .int .u8 q.f9, .int .i64 q.f10, .string q.f11, .int .u64 q.f12, .int .u64 q.f13, .int .i64 q.f14, .int .u8 q.f15, .int .i64 q.f16, .int .u64 q.f17, .int .u64 q.f18, .int .i64 q.f19, .string q.f20]] w fun e w' => e = .returned (.bool true) ∧ Below w.heap.size w w' := by
  have hG : ∀ (W : World) (B : Nat), W.heap[B]? = some (.cells #[.int .u8 q.f0, .int .i64 q.f1, .int .i64 q.f2, .int .i64 q.f3, .int .i64 q.f4, .string q.f5, .string q.f6, .int .u64 q.f7, .int .u64 q.f8, .int .u8 q.f9, .int .i64 q.f10, .string q.f11, .int .u64 q.f12, .int .u64 q.f13, .int .i64 q.f14, .int .u8 q.f15, .int .i64 q.f16, .int .u64 q.f17, .int .u64 q.f18, .int .i64 q.f19, .string q.f20] 61 (0, 0)) → Calls Tryz.prog 15 #[.agg #[.int .i64 0, .int .i64 0, .string ⟨#[]⟩], .slice (some ⟨B, 0, none⟩) 1 1] W fun e w' => ∃ b, e = .returned (.bool b) ∧ Below W.heap.size W w' := fun W B h => great_calls W B q h
  have hA1 : Aside0 (Below w.heap.size w ((w.alloc (.cells #[.int .u8 q.f0, .int .i64 q.f1, .int .i64 q.f2, .int .i64 q.f3, .int .i64 q.f4, .string q.f5, .string q.f6, .int .u64 q.f7, .int .u64 q.f8, .int .u8 q.f9, .int .i64 q.f10, .string q.f11, .int .u64 q.f12, .int .u64 q.f13, .int .i64 q.f14, .int .u8 q.f15, .int .i64 q.f16, .int .u64 q.f17, .int .u64 q.f18, .int .i64 q.f19, .string q.f20] 61)).alloc (.cells #[.int .u8 q.f0, .int .i64 q.f1, .int .i64 q.f2, .int .i64 q.f3, .int .i64 q.f4, .string q.f5, .string q.f6, .int .u64 q.f7, .int .u64 q.f8, .int .u8 q.f9, .int .i64 q.f10, .string q.f11, .int .u64 q.f12, .int .u64 q.f13, .int .i64 q.f14, .int .u8 q.f15, .int .i64 q.f16, .int .u64 q.f17, .int .u64 q.f18, .int .i64 q.f19, .string q.f20] 61))) := ⟨((Below.refl _ _).alloc (Nat.le_refl _) _).alloc (by simp) _⟩
  have hA2 : Aside0 (((w.alloc (.cells #[.int .u8 q.f0, .int .i64 q.f1, .int .i64 q.f2, .int .i64 q.f3, .int .i64 q.f4, .string q.f5, .string q.f6, .int .u64 q.f7, .int .u64 q.f8, .int .u8 q.f9, .int .i64 q.f10, .string q.f11, .int .u64 q.f12, .int .u64 q.f13, .int .i64 q.f14, .int .u8 q.f15, .int .i64 q.f16, .int .u64 q.f17, .int .u64 q.f18, .int .i64 q.f19, .string q.f20] 61)).alloc (.cells #[.int .u8 q.f0, .int .i64 q.f1, .int .i64 q.f2, .int .i64 q.f3, .int .i64 q.f4, .string q.f5, .string q.f6, .int .u64 q.f7, .int .u64 q.f8, .int .u8 q.f9, .int .i64 q.f10, .string q.f11, .int .u64 q.f12, .int .u64 q.f13, .int .i64 q.f14, .int .u8 q.f15, .int .i64 q.f16, .int .u64 q.f17, .int .u64 q.f18, .int .i64 q.f19, .string q.f20] 61)).heap[w.heap.size + 1]? = some (.cells #[.int .u8 q.f0, .int .i64 q.f1, .int .i64 q.f2, .int .i64 q.f3, .int .i64 q.f4, .string q.f5, .string q.f6, .int .u64 q.f7, .int .u64 q.f8, .int .u8 q.f9, .int .i64 q.f10, .string q.f11, .int .u64 q.f12, .int .u64 q.f13, .int .i64 q.f14, .int .u8 q.f15, .int .i64 q.f16, .int .u64 q.f17, .int .u64 q.f18, .int .i64 q.f19, .string q.f20] 61 (0, 0))) := ⟨by have h := blk_new (w.alloc (.cells #[.int .u8 q.f0, .int .i64 q.f1, .int .i64 q.f2, .int .i64 q.f3, .int .i64 q.f4, .string q.f5, .string q.f6, .int .u64 q.f7, .int .u64 q.f8, .int .u8 q.f9, .int .i64 q.f10, .string q.f11, .int .u64 q.f12, .int .u64 q.f13, .int .i64 q.f14, .int .u8 q.f15, .int .i64 q.f16, .int .u64 q.f17, .int .u64 q.f18, .int .i64 q.f19, .string q.f20] 61)) (.cells #[.int .u8 q.f0, .int .i64 q.f1, .int .i64 q.f2, .int .i64 q.f3, .int .i64 q.f4, .string q.f5, .string q.f6, .int .u64 q.f7, .int .u64 q.f8, .int .u8 q.f9, .int .i64 q.f10, .string q.f11, .int .u64 q.f12, .int .u64 q.f13, .int .i64 q.f14, .int .u8 q.f15, .int .i64 q.f16, .int .u64 q.f17, .int .u64 q.f18, .int .i64 q.f19, .string q.f20] 61 (0, 0)); simpa using h⟩
  have hA3 : Aside0 (((w.alloc (.cells #[.int .u8 q.f0, .int .i64 q.f1, .int .i64 q.f2, .int .i64 q.f3, .int .i64 q.f4, .string q.f5, .string q.f6, .int .u64 q.f7, .int .u64 q.f8, .int .u8 q.f9, .int .i64 q.f10, .string q.f11, .int .u64 q.f12, .int .u64 q.f13, .int .i64 q.f14, .int .u8 q.f15, .int .i64 q.f16, .int .u64 q.f17, .int .u64 q.f18, .int .i64 q.f19, .string q.f20] 61)).alloc (.cells #[.int .u8 q.f0, .int .i64 q.f1, .int .i64 q.f2, .int .i64 q.f3, .int .i64 q.f4, .string q.f5, .string q.f6, .int .u64 q.f7, .int .u64 q.f8, .int .u8 q.f9, .int .i64 q.f10, .string q.f11, .int .u64 q.f12, .int .u64 q.f13, .int .i64 q.f14, .int .u8 q.f15, .int .i64 q.f16, .int .u64 q.f17, .int .u64 q.f18, .int .i64 q.f19, .string q.f20] 61)).heap[w.heap.size]? = some (.cells #[.int .u8 q.f0, .int .i64 q.f1, .int .i64 q.f2, .int .i64 q.f3, .int .i64 q.f4, .string q.f5, .string q.f6, .int .u64 q.f7, .int .u64 q.f8, .int .u8 q.f9, .int .i64 q.f10, .string q.f11, .int .u64 q.f12, .int .u64 q.f13, .int .i64 q.f14, .int .u8 q.f15, .int .i64 q.f16, .int .u64 q.f17, .int .u64 q.f18, .int .i64 q.f19, .string q.f20] 61 (0, 0))) := ⟨blk_below (blk_new w (.cells #[.int .u8 q.f0, .int .i64 q.f1, .int .i64 q.f2, .int .i64 q.f3, .int .i64 q.f4, .string q.f5, .string q.f6, .int .u64 q.f7, .int .u64 q.f8, .int .u8 q.f9, .int .i64 q.f10, .string q.f11, .int .u64 q.f12, .int .u64 q.f13, .int .i64 q.f14, .int .u8 q.f15, .int .i64 q.f16, .int .u64 q.f17, .int .u64 q.f18, .int .i64 q.f19, .string q.f20] 61 (0, 0))) ((Below.refl _ _).alloc (Nat.le_refl _) _)⟩
  have hI61 : (Tryz.prog.info? 61).map (·.size) = some (#[.int .u8 q.f0, .int .i64 q.f1, .int .i64 q.f2, .int .i64 q.f3, .int .i64 q.f4, .string q.f5, .string q.f6, .int .u64 q.f7, .int .u64 q.f8, .int .u8 q.f9, .int .i64 q.f10, .string q.f11, .int .u64 q.f12, .int .u64 q.f13, .int .i64 q.f14, .int .u8 q.f15, .int .i64 q.f16, .int .u64 q.f17, .int .u64 q.f18, .int .i64 q.f19, .string q.f20] : Array Value).size := by kernel_rfl
  go_enter Tryz.func4, Tryz.ntmps4
  go_wp2_with ((with_reducible refine wpList_load_row rfl 61 _ rfl w.heap.size rfl 61 #[.int .u8 q.f0, .int .i64 q.f1, .int .i64 q.f2, .int .i64 q.f3, .int .i64 q.f4, .string q.f5, .string q.f6, .int .u64 q.f7, .int .u64 q.f8, .int .u8 q.f9, .int .i64 q.f10, .string q.f11, .int .u64 q.f12, .int .u64 q.f13, .int .i64 q.f14, .int .u8 q.f15, .int .i64 q.f16, .int .u64 q.f17, .int .u64 q.f18, .int .i64 q.f19, .string q.f20] (0, 0) _ (blk_new w (.cells #[.int .u8 q.f0, .int .i64 q.f1, .int .i64 q.f2, .int .i64 q.f3, .int .i64 q.f4, .string q.f5, .string q.f6, .int .u64 q.f7, .int .u64 q.f8, .int .u8 q.f9, .int .i64 q.f10, .string q.f11, .int .u64 q.f12, .int .u64 q.f13, .int .i64 q.f14, .int .u8 q.f15, .int .i64 q.f16, .int .u64 q.f17, .int .u64 q.f18, .int .i64 q.f19, .string q.f20] 61 (0, 0))) Tryz.underlying61 rfl hI61 ?_))
  refine (hG _ _ hA2.out).mono ?_
  rintro e w2 ⟨b, rfl, hb⟩
  have HB2 : Aside0 (Below w.heap.size w w2) := ⟨hA1.out.trans (hb.mono hA1.out.size)⟩
  have HE2 := Aside0.mk (blk_below hA3.out hb)
  clear hb hA1 hA2 hA3 hG
  cases b with
  | true =>
    as_aux_lemma =>
    go_wp2
    go_ret
    exact ⟨rfl, HB2.out⟩
  | false =>
    as_aux_lemma =>
    have hB3 : Aside0 (Below w2.heap.size w2 ((w2.alloc (.cells #[.pointer none, .pointer none, .slice none 0 0, .slice none 0 0, .bool false] 68)).alloc (.cells #[.pointer none, .pointer (some ⟨w2.heap.size, 0, none⟩)] 64))) := ⟨((Below.refl _ _).alloc (Nat.le_refl _) _).alloc (by simp) _⟩
    have hZ3 : Aside0 (((w2.alloc (.cells #[.pointer none, .pointer none, .slice none 0 0, .slice none 0 0, .bool false] 68)).alloc (.cells #[.pointer none, .pointer (some ⟨w2.heap.size, 0, none⟩)] 64)).heap[w2.heap.size]? = some (.cells #[.pointer none, .pointer none, .slice none 0 0, .slice none 0 0, .bool false] 68 (0, 0))) := ⟨blk_below (blk_new w2 (.cells #[.pointer none, .pointer none, .slice none 0 0, .slice none 0 0, .bool false] 68 (0, 0))) ((Below.refl _ _).alloc (Nat.le_refl _) _)⟩
    have hL3 : Aside0 (((w2.alloc (.cells #[.pointer none, .pointer none, .slice none 0 0, .slice none 0 0, .bool false] 68)).alloc (.cells #[.pointer none, .pointer (some ⟨w2.heap.size, 0, none⟩)] 64)).heap[w2.heap.size + 1]? = some (.cells #[.pointer none, .pointer (some ⟨w2.heap.size, 0, none⟩)] 64 (0, 0))) := ⟨by have h := blk_new (w2.alloc (.cells #[.pointer none, .pointer none, .slice none 0 0, .slice none 0 0, .bool false] 68)) (.cells #[.pointer none, .pointer (some ⟨w2.heap.size, 0, none⟩)] 64 (0, 0)); simpa using h⟩
    go_wp2
    have HBs : Aside0 (Below w.heap.size w ((w2.alloc (.cells #[.pointer none, .pointer none, .slice none 0 0, .slice none 0 0, .bool false] 68)).alloc (.cells #[.pointer none, .pointer (some ⟨w2.heap.size, 0, none⟩)] 64))) := ⟨HB2.out.trans (hB3.out.mono HB2.out.size)⟩
    have HEs := Aside0.mk (blk_below HE2.out hB3.out)
    clear hB3 HE2 HB2
    go_loopw [5] (fun v5 wr => (v5 = .int .i64 0 ∨ v5 = .int .i64 1 ∨ v5 = .int .i64 2) ∧ Aside0 (Below w.heap.size w wr) ∧ Aside0 (wr.heap[w.heap.size]? = some (.cells #[.int .u8 q.f0, .int .i64 q.f1, .int .i64 q.f2, .int .i64 q.f3, .int .i64 q.f4, .string q.f5, .string q.f6, .int .u64 q.f7, .int .u64 q.f8, .int .u8 q.f9, .int .i64 q.f10, .string q.f11, .int .u64 q.f12, .int .u64 q.f13, .int .i64 q.f14, .int .u8 q.f15, .int .i64 q.f16, .int .u64 q.f17, .int .u64 q.f18, .int .i64 q.f19, .string q.f20] 61 (0, 0))) ∧ Aside0 (wr.heap[w2.heap.size + 1]? = some (.cells #[.pointer none, .pointer (some ⟨w2.heap.size, 0, none⟩)] 64 (0, 0))) ∧ Aside0 (wr.heap[w2.heap.size]? = some (.cells #[.pointer none, .pointer none, .slice none 0 0, .slice none 0 0, .bool false] 68 (0, 0)))) (fun v5 _ => 2 - (intOf v5).toNat)
    case atStart => exact ⟨.inl rfl, HBs, HEs, hL3, hZ3⟩
    case round =>
      obtain ⟨hv, HB, HE, HL, HZ⟩ := hrel
      clear HBs HEs hL3 hZ3
      rcases hv with rfl | rfl | rfl
      · as_aux_lemma =>
        have hN : Aside0 (WNone wr (.pointer none)) := ⟨.inl rfl⟩
        have x0 : wr.cell? ⟨w2.heap.size + 1, 0, none⟩ = some (.pointer none) := (blk_cell HL.out 0).trans rfl
        go_wp2_with ((with_reducible refine wpList_load_row rfl 61 _ rfl w.heap.size rfl 61 #[.int .u8 q.f0, .int .i64 q.f1, .int .i64 q.f2, .int .i64 q.f3, .int .i64 q.f4, .string q.f5, .string q.f6, .int .u64 q.f7, .int .u64 q.f8, .int .u8 q.f9, .int .i64 q.f10, .string q.f11, .int .u64 q.f12, .int .u64 q.f13, .int .i64 q.f14, .int .u8 q.f15, .int .i64 q.f16, .int .u64 q.f17, .int .u64 q.f18, .int .i64 q.f19, .string q.f20] (0, 0) _ HE.out Tryz.underlying61 rfl hI61 ?_))
        refine (do_calls wr _ q hN.out).mono ?_
        rintro e w3 ⟨rfl, hb3⟩
        have hN3 := Aside0.mk (hN.out.below hb3)
        have HB3 : Aside0 (Below w.heap.size w w3) := ⟨HB.out.trans (hb3.mono HB.out.size)⟩
        have HE3 := Aside0.mk (blk_below HE.out hb3)
        have HL3 := Aside0.mk (blk_below HL.out hb3)
        have HZ3 := Aside0.mk (blk_below HZ.out hb3)
        clear hb3 x0 hN
        go_wp2_with fail
        refine (board_calls _ _ hN3.out).mono ?_
        rintro e w4 ⟨rfl, rfl⟩
        go_wp2_with fail
        refine (exchange_calls _ _ hN3.out).mono ?_
        rintro e w4 ⟨rfl, rfl⟩
        go_wp2_with fail
        refine (net_calls _ _ hN3.out).mono ?_
        rintro e w4 ⟨rfl, rfl⟩
        go_wp2_with fail
        refine (accepted_calls _ _ hN3.out).mono ?_
        rintro e w4 ⟨rfl, rfl⟩
        go_wp2_with fail
        refine (foreign_calls _ _ hN3.out).mono ?_
        rintro e w4 ⟨rfl, rfl⟩
        go_wp2
        go_roundw
        case rel => exact ⟨.inr (.inl rfl), HB3, HE3, HL3, HZ3⟩
        case measure => simp [intOf]
      · as_aux_lemma =>
        have hN : Aside0 (WNone wr (.pointer (some ⟨w2.heap.size, 0, none⟩))) := ⟨.inr ⟨_, rfl, HZ.out⟩⟩
        have x0 : wr.cell? ⟨w2.heap.size + 1, 1, none⟩ = some (.pointer (some ⟨w2.heap.size, 0, none⟩)) := (blk_cell HL.out 1).trans rfl
        go_wp2_with ((with_reducible refine wpList_load_row rfl 61 _ rfl w.heap.size rfl 61 #[.int .u8 q.f0, .int .i64 q.f1, .int .i64 q.f2, .int .i64 q.f3, .int .i64 q.f4, .string q.f5, .string q.f6, .int .u64 q.f7, .int .u64 q.f8, .int .u8 q.f9, .int .i64 q.f10, .string q.f11, .int .u64 q.f12, .int .u64 q.f13, .int .i64 q.f14, .int .u8 q.f15, .int .i64 q.f16, .int .u64 q.f17, .int .u64 q.f18, .int .i64 q.f19, .string q.f20] (0, 0) _ HE.out Tryz.underlying61 rfl hI61 ?_))
        refine (do_calls wr _ q hN.out).mono ?_
        rintro e w3 ⟨rfl, hb3⟩
        have hN3 := Aside0.mk (hN.out.below hb3)
        have HB3 : Aside0 (Below w.heap.size w w3) := ⟨HB.out.trans (hb3.mono HB.out.size)⟩
        have HE3 := Aside0.mk (blk_below HE.out hb3)
        have HL3 := Aside0.mk (blk_below HL.out hb3)
        have HZ3 := Aside0.mk (blk_below HZ.out hb3)
        clear hb3 x0 hN
        go_wp2_with fail
        refine (board_calls _ _ hN3.out).mono ?_
        rintro e w4 ⟨rfl, rfl⟩
        go_wp2_with fail
        refine (exchange_calls _ _ hN3.out).mono ?_
        rintro e w4 ⟨rfl, rfl⟩
        go_wp2_with fail
        refine (net_calls _ _ hN3.out).mono ?_
        rintro e w4 ⟨rfl, rfl⟩
        go_wp2_with fail
        refine (accepted_calls _ _ hN3.out).mono ?_
        rintro e w4 ⟨rfl, rfl⟩
        go_wp2_with fail
        refine (foreign_calls _ _ hN3.out).mono ?_
        rintro e w4 ⟨rfl, rfl⟩
        go_wp2
        go_roundw
        case rel => exact ⟨.inr (.inr rfl), HB3, HE3, HL3, HZ3⟩
        case measure => simp [intOf]
      · as_aux_lemma =>
        go_wp2_with fail
        refine (copy_calls _).mono ?_
        rintro e w4 ⟨rfl, rfl⟩
        go_wp2
        go_ret
        exact ⟨rfl, HB.out⟩
theorem worldNil_walk (q : Ev) (w : World) : Calls Tryz.prog 4 #[.agg #[.int .u8 q.f0, .int .i64 q.f1, .int .i64 q.f2, .int .i64 q.f3, .int .i64 q.f4, .string q.f5, .string q.f6, .int .u64 q.f7, .int .u64 q.f8, .int .u8 q.f9, .int .i64 q.f10, .string q.f11, .int .u64 q.f12, .int .u64 q.f13, .int .i64 q.f14, .int .u8 q.f15, .int .i64 q.f16, .int .u64 q.f17, .int .u64 q.f18, .int .i64 q.f19, .string q.f20]] w fun e w' => e = .returned (.bool true) ∧ Below w.heap.size w w' := law_calls w q
end Go.Proofs.YtpgkmjbfmmjjnaaGreatDoor.Pr
