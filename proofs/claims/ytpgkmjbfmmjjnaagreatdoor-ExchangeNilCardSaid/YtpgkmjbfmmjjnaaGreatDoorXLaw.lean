/- The walk of ExchangeNil's law. Written by mk_xlaw.py. -/
import Derived.Test.YtpgkmjbfmmjjnaaGreatDoorXNil
namespace Go.Proofs.YtpgkmjbfmmjjnaaGreatDoor.Pr
open Go.RowKit Go.Proofs.YtpgkmjbfmmjjnaaGreatDoorW.PrintWords Go.Proofs.YtpgkmjbfmmjjnaaGreatDoorW.PrintLast Go.Proofs.YtpgkmjbfmmjjnaaGreatDoorW.PrintMore
set_option linter.unusedVariables false
set_option linter.unusedSimpArgs false
set_option maxHeartbeats 8000000 in
set_option maxRecDepth 100000 in
theorem xlaw_calls (s : ByteArray) (q0 q1 q2 q3 : Int) (w : World) : Calls Tryz.prog 3 #[.string s, .agg #[.int .u8 q0, .int .i64 q1, .int .u64 q2, .int .u64 q3]] w fun e w' => e = .returned (.bool true) ∧ Below w.heap.size w w' := by
  have hA1 : Aside0 (Below w.heap.size w (w.alloc (.cells #[.int .u8 q0, .int .i64 q1, .int .u64 q2, .int .u64 q3] 24))) := ⟨(Below.refl _ _).alloc (Nat.le_refl _) _⟩
  have hA3 : Aside0 ((w.alloc (.cells #[.int .u8 q0, .int .i64 q1, .int .u64 q2, .int .u64 q3] 24)).heap[w.heap.size]? = some (.cells #[.int .u8 q0, .int .i64 q1, .int .u64 q2, .int .u64 q3] 24 (0, 0))) := ⟨blk_new w (.cells #[.int .u8 q0, .int .i64 q1, .int .u64 q2, .int .u64 q3] 24 (0, 0))⟩
  by_cases hs : (200 : Int) < (s.size : Int)
  · have c0 : decide ((200 : Int) < (s.size : Int)) = true := decide_eq_true hs
    go_enter Tryz.func3, Tryz.ntmps3
    go_wp2
    go_ret
    exact ⟨rfl, hA1.out⟩
  · have c0 : decide ((200 : Int) < (s.size : Int)) = false := decide_eq_false hs
    clear hs
    go_enter Tryz.func3, Tryz.ntmps3
    go_wp2_with fail
    refine (board_new _).mono ?_
    rintro e w2 ⟨rfl, hb⟩
    have HB2 : Aside0 (Below w.heap.size w w2) := ⟨hA1.out.trans (hb.mono hA1.out.size)⟩
    have HE2 := Aside0.mk (blk_below hA3.out hb)
    clear hb hA1 hA3
    have hB3 : Aside0 (Below w2.heap.size w2 ((w2.alloc (.cells #[.bool false, .int .i64 0, .int .i64 0, .string ⟨#[]⟩, .slice none 0 0, .int .i64 0] 34)).alloc (.cells #[.pointer none, .pointer (some ⟨w2.heap.size, 0, none⟩)] 25))) := ⟨((Below.refl _ _).alloc (Nat.le_refl _) _).alloc (by simp) _⟩
    have hZ3 : Aside0 (((w2.alloc (.cells #[.bool false, .int .i64 0, .int .i64 0, .string ⟨#[]⟩, .slice none 0 0, .int .i64 0] 34)).alloc (.cells #[.pointer none, .pointer (some ⟨w2.heap.size, 0, none⟩)] 25)).heap[w2.heap.size]? = some (.cells #[.bool false, .int .i64 0, .int .i64 0, .string ⟨#[]⟩, .slice none 0 0, .int .i64 0] 34 (0, 0))) := ⟨blk_below (blk_new w2 (.cells #[.bool false, .int .i64 0, .int .i64 0, .string ⟨#[]⟩, .slice none 0 0, .int .i64 0] 34 (0, 0))) ((Below.refl _ _).alloc (Nat.le_refl _) _)⟩
    have hL3 : Aside0 (((w2.alloc (.cells #[.bool false, .int .i64 0, .int .i64 0, .string ⟨#[]⟩, .slice none 0 0, .int .i64 0] 34)).alloc (.cells #[.pointer none, .pointer (some ⟨w2.heap.size, 0, none⟩)] 25)).heap[w2.heap.size + 1]? = some (.cells #[.pointer none, .pointer (some ⟨w2.heap.size, 0, none⟩)] 25 (0, 0))) := ⟨by have h := blk_new (w2.alloc (.cells #[.bool false, .int .i64 0, .int .i64 0, .string ⟨#[]⟩, .slice none 0 0, .int .i64 0] 34)) (.cells #[.pointer none, .pointer (some ⟨w2.heap.size, 0, none⟩)] 25 (0, 0)); simpa using h⟩
    go_wp2
    have HBs : Aside0 (Below w.heap.size w ((w2.alloc (.cells #[.bool false, .int .i64 0, .int .i64 0, .string ⟨#[]⟩, .slice none 0 0, .int .i64 0] 34)).alloc (.cells #[.pointer none, .pointer (some ⟨w2.heap.size, 0, none⟩)] 25))) := ⟨HB2.out.trans (hB3.out.mono HB2.out.size)⟩
    have HEs := Aside0.mk (blk_below HE2.out hB3.out)
    clear hB3 HE2 HB2
    go_loopw [10] (fun v10 wr => (v10 = .int .i64 0 ∨ v10 = .int .i64 1 ∨ v10 = .int .i64 2) ∧ Aside0 (Below w.heap.size w wr) ∧ Aside0 (wr.heap[w.heap.size]? = some (.cells #[.int .u8 q0, .int .i64 q1, .int .u64 q2, .int .u64 q3] 24 (0, 0))) ∧ Aside0 (wr.heap[w2.heap.size + 1]? = some (.cells #[.pointer none, .pointer (some ⟨w2.heap.size, 0, none⟩)] 25 (0, 0))) ∧ Aside0 (wr.heap[w2.heap.size]? = some (.cells #[.bool false, .int .i64 0, .int .i64 0, .string ⟨#[]⟩, .slice none 0 0, .int .i64 0] 34 (0, 0)))) (fun v10 _ => 2 - (intOf v10).toNat)
    case atStart => exact ⟨.inl rfl, HBs, HEs, hL3, hZ3⟩
    case round =>
      obtain ⟨hv, HB, HE, HL, HZ⟩ := hrel
      clear HBs HEs hL3 hZ3
      rcases hv with rfl | rfl | rfl
      · as_aux_lemma =>
        have hN : Aside0 (XNone wr (.pointer none)) := ⟨.inl rfl⟩
        have x0 : wr.cell? ⟨w2.heap.size + 1, 0, none⟩ = some (.pointer none) := (blk_cell HL.out 0).trans rfl
        have y0 : wr.cell? ⟨w.heap.size, 0, none⟩ = some (.int .u8 q0) := (blk_cell HE.out 0).trans rfl
        have y1 : wr.cell? ⟨w.heap.size, 1, none⟩ = some (.int .i64 q1) := (blk_cell HE.out 1).trans rfl
        have y2 : wr.cell? ⟨w.heap.size, 2, none⟩ = some (.int .u64 q2) := (blk_cell HE.out 2).trans rfl
        have y3 : wr.cell? ⟨w.heap.size, 3, none⟩ = some (.int .u64 q3) := (blk_cell HE.out 3).trans rfl
        go_wp2_with fail
        refine (ledger_calls _ _ _ hN.out).mono ?_
        rintro e w4 ⟨rfl, rfl⟩
        go_wp2_with fail
        refine (answer_calls _ _ _ _ _ _ hN.out).mono ?_
        rintro e w3 ⟨rfl, hb3⟩
        have hN3 := Aside0.mk (hN.out.below hb3)
        have HB3 : Aside0 (Below w.heap.size w w3) := ⟨HB.out.trans (hb3.mono HB.out.size)⟩
        have HE3 := Aside0.mk (blk_below HE.out hb3)
        have HL3 := Aside0.mk (blk_below HL.out hb3)
        have HZ3 := Aside0.mk (blk_below HZ.out hb3)
        clear hb3 x0 y0 y1 y2 y3 hN
        have z1 : w3.cell? ⟨w.heap.size, 1, none⟩ = some (.int .i64 q1) := (blk_cell HE3.out 1).trans rfl
        go_wp2_with fail
        refine (tell_calls _ _ _ _ hN3.out).mono ?_
        rintro e w4 ⟨rfl, rfl⟩
        go_wp2_with fail
        refine (run_calls _ _ _ hN3.out).mono ?_
        rintro e w4 ⟨rfl, rfl⟩
        go_wp2_with fail
        refine (many_calls _ _ hN3.out).mono ?_
        rintro e w4 ⟨rfl, rfl⟩
        go_wp2_with fail
        refine (published_calls _ _ hN3.out).mono ?_
        rintro e w4 ⟨rfl, rfl⟩
        go_wp2_with fail
        refine (snapshot_calls _ _ hN3.out).mono ?_
        rintro e w4 ⟨rfl, rfl⟩
        go_wp2
        go_roundw
        case rel => exact ⟨.inr (.inl rfl), HB3, HE3, HL3, HZ3⟩
        case measure => simp [intOf]
      · as_aux_lemma =>
        have hN : Aside0 (XNone wr (.pointer (some ⟨w2.heap.size, 0, none⟩))) := ⟨.inr ⟨_, rfl, HZ.out⟩⟩
        have x0 : wr.cell? ⟨w2.heap.size + 1, 1, none⟩ = some (.pointer (some ⟨w2.heap.size, 0, none⟩)) := (blk_cell HL.out 1).trans rfl
        have y0 : wr.cell? ⟨w.heap.size, 0, none⟩ = some (.int .u8 q0) := (blk_cell HE.out 0).trans rfl
        have y1 : wr.cell? ⟨w.heap.size, 1, none⟩ = some (.int .i64 q1) := (blk_cell HE.out 1).trans rfl
        have y2 : wr.cell? ⟨w.heap.size, 2, none⟩ = some (.int .u64 q2) := (blk_cell HE.out 2).trans rfl
        have y3 : wr.cell? ⟨w.heap.size, 3, none⟩ = some (.int .u64 q3) := (blk_cell HE.out 3).trans rfl
        go_wp2_with fail
        refine (ledger_calls _ _ _ hN.out).mono ?_
        rintro e w4 ⟨rfl, rfl⟩
        go_wp2_with fail
        refine (answer_calls _ _ _ _ _ _ hN.out).mono ?_
        rintro e w3 ⟨rfl, hb3⟩
        have hN3 := Aside0.mk (hN.out.below hb3)
        have HB3 : Aside0 (Below w.heap.size w w3) := ⟨HB.out.trans (hb3.mono HB.out.size)⟩
        have HE3 := Aside0.mk (blk_below HE.out hb3)
        have HL3 := Aside0.mk (blk_below HL.out hb3)
        have HZ3 := Aside0.mk (blk_below HZ.out hb3)
        clear hb3 x0 y0 y1 y2 y3 hN
        have z1 : w3.cell? ⟨w.heap.size, 1, none⟩ = some (.int .i64 q1) := (blk_cell HE3.out 1).trans rfl
        go_wp2_with fail
        refine (tell_calls _ _ _ _ hN3.out).mono ?_
        rintro e w4 ⟨rfl, rfl⟩
        go_wp2_with fail
        refine (run_calls _ _ _ hN3.out).mono ?_
        rintro e w4 ⟨rfl, rfl⟩
        go_wp2_with fail
        refine (many_calls _ _ hN3.out).mono ?_
        rintro e w4 ⟨rfl, rfl⟩
        go_wp2_with fail
        refine (published_calls _ _ hN3.out).mono ?_
        rintro e w4 ⟨rfl, rfl⟩
        go_wp2_with fail
        refine (snapshot_calls _ _ hN3.out).mono ?_
        rintro e w4 ⟨rfl, rfl⟩
        go_wp2
        go_roundw
        case rel => exact ⟨.inr (.inr rfl), HB3, HE3, HL3, HZ3⟩
        case measure => simp [intOf]
      · as_aux_lemma =>
        go_wp2_with fail
        refine (xnew_calls _).mono ?_
        rintro e w4 ⟨B, rfl, hc, hb⟩
        have HB4 := Aside0.mk (HB.out.trans (hb.mono HB.out.size))
        have hc2 : Aside0 ((w4.alloc (.cells #[.int .i64 0, .int .i64 0, .slice none 0 0, .slice none 0 0, .slice none 0 0] 51)).cell? ⟨B, 0, none⟩ = some (.bool true)) := ⟨(((Below.refl _ _).alloc (Nat.le_refl _) _).cell (World.block_lt_of_cell? w4 _ hc)).trans hc⟩
        have hb2 : Aside0 ((w4.alloc (.cells #[.int .i64 0, .int .i64 0, .slice none 0 0, .slice none 0 0, .slice none 0 0] 51)).cell? ⟨w4.heap.size, 0, none⟩ = some (.int .i64 0)) := ⟨(blk_cell (blk_new w4 (.cells #[.int .i64 0, .int .i64 0, .slice none 0 0, .slice none 0 0, .slice none 0 0] 51 (0, 0))) 0).trans rfl⟩
        have HC := Aside0.mk hc
        clear hb hc
        go_wp2_with fail
        refine (run_no _ _ _ HC.out (.inl rfl)).mono ?_
        rintro e w5 ⟨rfl, rfl⟩
        go_wp2_with fail
        refine (run_no _ _ _ hc2.out (.inr ⟨_, rfl, hb2.out⟩)).mono ?_
        rintro e w6 ⟨rfl, rfl⟩
        go_wp2_with fail
        refine (xcopy_calls _).mono ?_
        rintro e w7 ⟨rfl, rfl⟩
        go_wp2
        go_ret
        exact ⟨rfl, HB4.out.alloc HB4.out.size _⟩
theorem exchangeNil_walk (s : ByteArray) (q : Int × Int × Int × Int) (w : World) (_ : s.size ≤ 140737488351232) : Calls Tryz.prog 3 #[.string s, .agg #[.int .u8 q.1, .int .i64 q.2.1, .int .u64 q.2.2.1, .int .u64 q.2.2.2]] w fun e w' => e = .returned (.bool true) ∧ Below w.heap.size w w' := xlaw_calls s _ _ _ _ w
end Go.Proofs.YtpgkmjbfmmjjnaaGreatDoor.Pr
