/- tag.within: what it calls of package strings, and its own contract. -/
import Derived.Test.YtfijhbfdkcajjaaGreatDoorShelf
import Derived.Test.YtfijhbfdkcajjaaGreatDoorUtf
import Derived.Test.YtfijhbfdkcajjaaGreatDoorPrx6
import Derived.WalkMore
import Derived.Shelf.RegionOpenPlain
import Derived.Deep.LoopGhost
import Derived.Lib.SliceRun
namespace Go.Proofs.YtfijhbfdkcajjaaGreatDoor.Pr
open Go.RowKit Go.Proofs.YtfijhbfdkcajjaaGreatDoorW.PrintWords Go.Proofs.YtfijhbfdkcajjaaGreatDoorW.PrintLast Go.Proofs.YtfijhbfdkcajjaaGreatDoorW.PrintMore
set_option linter.unusedVariables false
set_option linter.unusedSimpArgs false

def dots : ByteArray := ⟨#[46, 95, 45]⟩
theorem encode_high (r : Int) (h0 : 128 ≤ r) (h1 : r ≤ 1114111) (hv : r < 55296 ∨ 57344 ≤ r) :
    (∃ a b : UInt8, Utf8.encode r = ⟨#[a, b]⟩ ∧ 128 ≤ b.toNat) ∨ (∃ a b c : UInt8, Utf8.encode r = ⟨#[a, b, c]⟩ ∧ 128 ≤ c.toNat) ∨ (∃ a b c d : UInt8, Utf8.encode r = ⟨#[a, b, c, d]⟩ ∧ 128 ≤ d.toNat) := by
  have hva : Utf8.valid r = true := by unfold Utf8.valid; simp; omega
  have hl : 128 ≤ (UInt8.ofNat (128 + r.toNat % 64)).toNat := by
    rw [UInt8.toNat_ofNat']; omega
  unfold Utf8.encode
  rw [hva]
  simp only [if_true]
  rw [if_neg (by omega)]
  by_cases c1 : r.toNat < 0x800
  · rw [if_pos c1]; exact .inl ⟨_, _, rfl, hl⟩
  · rw [if_neg c1]
    by_cases c2 : r.toNat < 0x10000
    · rw [if_pos c2]; exact .inr (.inl ⟨_, _, _, rfl, hl⟩)
    · rw [if_neg c2]; exact .inr (.inr ⟨_, _, _, _, rfl, hl⟩)
theorem dots_decode (p : Nat) (hp : p < dots.size) : (Utf8.decode dots p).1 < 128 ∧ (Utf8.decode dots p).2 = 1 := by
  have h3 : p = 0 ∨ p = 1 ∨ p = 2 := by have : dots.size = 3 := rfl; omega
  rcases h3 with rfl | rfl | rfl <;> decide
theorem below_iter (w : World) (s : ByteArray) (pos : Nat) : Below w.heap.size w (w.iter s pos) := Below.alloc (Below.refl _ _) (Nat.le_refl _) _
theorem valid_high (r : Int) (h0 : 128 ≤ r) (h1 : r ≤ 1114111) (hv : r < 55296 ∨ 57344 ≤ r) : utf8_ValidRune.f 5 r = some true := by
  rw [utf8_ValidRune.f, if_pos (by omega), utf8_ValidRune.j0]
  by_cases c : r < 55296
  · rw [decide_eq_true c, if_pos rfl]
  · rw [decide_eq_false c, if_neg (by simp), if_pos (by omega), if_pos (by omega)]
set_option maxHeartbeats 4000000 in
set_option maxRecDepth 100000 in
theorem index_rune_error (w : World) : Calls Tryz.prog 101 #[.string dots, .int .i32 65533] w fun e w' => e = .returned (.int .i64 (-1)) ∧ Below w.heap.size w w' := by
  have hsz : dots.size = 3 := rfl
  have hdec := dots_decode
  generalize dots = s at hsz hdec ⊢
  go_enter Tryz.func101, Tryz.ntmps101
  go_wp2
  go_loopw [5, 6] (fun v5 v6 w' => ∃ pos : Nat, w' = w.iter s pos ∧ pos ≤ 3) (fun _ _ w' => 3 - w'.iterPos w.heap.size)
  case atStart => exact ⟨0, rfl, by omega⟩
  case round =>
    obtain ⟨pos, rfl, hpos⟩ := hrel
    by_cases hp : pos < s.size
    · have hnx : ∀ ty, (Instr.next (.pointer (some ⟨w.heap.size, 0, none⟩)) true ty).run Tryz.prog (w.iter s pos) = _ := fun ty => run_next_any w s pos ty hp
      obtain ⟨d1, d2⟩ := hdec pos hp
      have hne : (((Utf8.decode s pos).1 : Int) == 65533) = false := by
        rw [beq_eq_false_iff_ne]; omega
      go_wp2
      go_roundw
      case rel => exact ⟨pos + 1, rfl, by omega⟩
      case measure =>
        simp
        omega
    · have hnx : ∀ ty, (Instr.next (.pointer (some ⟨w.heap.size, 0, none⟩)) true ty).run Tryz.prog (w.iter s pos) = _ := fun ty => run_next_end w s pos ty hp
      go_wp2
      go_ret
      exact ⟨rfl, below_iter w s pos⟩
set_option maxHeartbeats 4000000 in
set_option maxRecDepth 100000 in
theorem index_rune_2 (r : Int) (h0 : 128 ≤ r) (h1 : r ≤ 1114111) (hv : r < 55296 ∨ 57344 ≤ r) (hne : r ≠ 65533) (a b : UInt8) (he : Utf8.encode r = ⟨#[a, b]⟩) (hb : 128 ≤ b.toNat) (w : World) : Calls Tryz.prog 101 #[.string dots, .int .i32 r] w fun e w' => e = .returned (.int .i64 (-1)) ∧ Below w.heap.size w w' := by
  have hcon := fun W => utf8_ValidRune.calls 5 r true W (valid_high r h0 h1 hv)
  have hr0 : decide (0 ≤ r) = true := decide_eq_true (by omega)
  have hr1 : decide (r < 128) = false := decide_eq_false (by omega)
  have hr2 : (r == 65533) = false := beq_eq_false_iff_ne.2 hne
  clear h0 h1 hv hne
  unfold dots
  go_enter Tryz.func101, Tryz.ntmps101
  go_wp2_with (first | (go_at_call 119; refine (hcon _).mono ?_; rintro e w' ⟨rfl, ⟨nd, rfl⟩⟩))
  go_step3
  go_wp2_with (first | (go_at_call 119; refine (hcon _).mono ?_; rintro e w' ⟨rfl, ⟨nd, rfl⟩⟩))
  refine wp_loop_rounds 1 ?_
  rw [rounds_succ]
  go_wp2
  have mixed := Tryz.laysIndexByte.mixed
  have hidx : ∀ W, Calls Tryz.prog 118 #[.string ⟨#[45]⟩, .int .u8 (b.toNat : Int)] W fun e w' => e = .returned (.int .i64 (-1)) ∧ w' = W := fun W => by
    have h := Any.strings_IndexByte Tryz.laysIndexByte ⟨#[45]⟩ (b.toNat : Int) W
    have e : Lib.indexByte (⟨#[45]⟩ : ByteArray).data.toList ((b.toNat : Int).toNat.toUInt8) = -1 := by
      rw [Int.toNat_natCast]
      have : (45 == b.toNat.toUInt8) = false := by
        rw [beq_eq_false_iff_ne]; intro h
        have h2 := congrArg UInt8.toNat h
        simp at h2
        omega
      show Lib.indexByte [45] _ = -1
      unfold Lib.indexByte
      rw [this]; rfl
    rw [e] at h
    exact h
  have hib : (⟨#[a, b]⟩ : ByteArray)[1]'(by show 1 < 2; decide) = b := rfl
  have his : (⟨#[46, 95, 45]⟩ : ByteArray)[1]'(by show 1 < 3; decide) = 95 := rfl
  have hex : (⟨#[46, 95, 45]⟩ : ByteArray).extract 2 3 = ⟨#[45]⟩ := rfl
  have hw2 : IntKind.i64.wrap 2 = 2 := by decide
  have hneq : ((95 : Int) != (b.toNat : Int)) = true := by simp; omega
  go_step3
  go_wp2
  have hb0 : Below w.heap.size w (w.drewN nd) := pw_below_drewN (Below.refl _ _) nd
  generalize w.drewN nd = W1 at hb0 ⊢
  go_quiet_o (fail)
  go_wp2
  have hb1 : Below w.heap.size w (W1.drewN nq) := pw_below_drewN hb0 nq
  generalize W1.drewN nq = W2 at hb1 ⊢
  go_quiet_o (first | (go_at_call 118; refine Calls.quiet_of_same (hidx _)))
  go_wp2
  have hb2 : Below w.heap.size w (W2.drewN nq) := pw_below_drewN hb1 nq
  (try simp only [Exit.noGoto_ret, Exit.inBlock, Exit.then])
  (try rw [Exit.noGoto_ret])
  go_ret
  exact ⟨rfl, hb2⟩
set_option maxHeartbeats 4000000 in
set_option maxRecDepth 100000 in
theorem index_rune_3 (r : Int) (h0 : 128 ≤ r) (h1 : r ≤ 1114111) (hv : r < 55296 ∨ 57344 ≤ r) (hne : r ≠ 65533) (a b c : UInt8) (he : Utf8.encode r = ⟨#[a, b, c]⟩) (hb : 128 ≤ c.toNat) (w : World) : Calls Tryz.prog 101 #[.string dots, .int .i32 r] w fun e w' => e = .returned (.int .i64 (-1)) ∧ Below w.heap.size w w' := by
  have hcon := fun W => utf8_ValidRune.calls 5 r true W (valid_high r h0 h1 hv)
  have hr0 : decide (0 ≤ r) = true := decide_eq_true (by omega)
  have hr1 : decide (r < 128) = false := decide_eq_false (by omega)
  have hr2 : (r == 65533) = false := beq_eq_false_iff_ne.2 hne
  clear h0 h1 hv hne
  unfold dots
  go_enter Tryz.func101, Tryz.ntmps101
  go_wp2_with (first | (go_at_call 119; refine (hcon _).mono ?_; rintro e w' ⟨rfl, ⟨nd, rfl⟩⟩))
  go_step3
  go_wp2_with (first | (go_at_call 119; refine (hcon _).mono ?_; rintro e w' ⟨rfl, ⟨nd, rfl⟩⟩))
  refine wp_loop_rounds 1 ?_
  rw [rounds_succ]
  go_wp2
  have mixed := Tryz.laysIndexByte.mixed
  have hidx : ∀ W, Calls Tryz.prog 118 #[.string ⟨#[]⟩, .int .u8 (c.toNat : Int)] W fun e w' => e = .returned (.int .i64 (-1)) ∧ w' = W := fun W => by
    have h := Any.strings_IndexByte Tryz.laysIndexByte ⟨#[]⟩ (c.toNat : Int) W
    have e : Lib.indexByte (⟨#[]⟩ : ByteArray).data.toList ((c.toNat : Int).toNat.toUInt8) = -1 := by
      rfl
    rw [e] at h
    exact h
  have hib : (⟨#[a, b, c]⟩ : ByteArray)[2]'(by show 2 < 3; decide) = c := rfl
  have his : (⟨#[46, 95, 45]⟩ : ByteArray)[2]'(by show 2 < 3; decide) = 45 := rfl
  have hex : (⟨#[46, 95, 45]⟩ : ByteArray).extract 3 3 = ⟨#[]⟩ := rfl
  have hw2 : IntKind.i64.wrap 3 = 3 := by decide
  have hneq : ((45 : Int) != (c.toNat : Int)) = true := by simp; omega
  go_step3
  go_wp2
  have hb0 : Below w.heap.size w (w.drewN nd) := pw_below_drewN (Below.refl _ _) nd
  generalize w.drewN nd = W1 at hb0 ⊢
  go_quiet_o (fail)
  go_wp2
  have hb1 : Below w.heap.size w (W1.drewN nq) := pw_below_drewN hb0 nq
  generalize W1.drewN nq = W2 at hb1 ⊢
  go_quiet_o (first | (go_at_call 118; refine Calls.quiet_of_same (hidx _)))
  go_wp2
  have hb2 : Below w.heap.size w (W2.drewN nq) := pw_below_drewN hb1 nq
  (try simp only [Exit.noGoto_ret, Exit.inBlock, Exit.then])
  (try rw [Exit.noGoto_ret])
  go_ret
  exact ⟨rfl, hb2⟩
set_option maxHeartbeats 4000000 in
set_option maxRecDepth 100000 in
theorem index_rune_4 (r : Int) (h0 : 128 ≤ r) (h1 : r ≤ 1114111) (hv : r < 55296 ∨ 57344 ≤ r) (hne : r ≠ 65533) (a b c d : UInt8) (he : Utf8.encode r = ⟨#[a, b, c, d]⟩) (w : World) : Calls Tryz.prog 101 #[.string dots, .int .i32 r] w fun e w' => e = .returned (.int .i64 (-1)) ∧ Below w.heap.size w w' := by
  have hcon := fun W => utf8_ValidRune.calls 5 r true W (valid_high r h0 h1 hv)
  have hr0 : decide (0 ≤ r) = true := decide_eq_true (by omega)
  have hr1 : decide (r < 128) = false := decide_eq_false (by omega)
  have hr2 : (r == 65533) = false := beq_eq_false_iff_ne.2 hne
  clear h0 h1 hv hne
  unfold dots
  go_enter Tryz.func101, Tryz.ntmps101
  go_wp2_with (first | (go_at_call 119; refine (hcon _).mono ?_; rintro e w' ⟨rfl, ⟨nd, rfl⟩⟩))
  go_step3
  go_wp2_with (first | (go_at_call 119; refine (hcon _).mono ?_; rintro e w' ⟨rfl, ⟨nd, rfl⟩⟩))
  refine wp_loop_rounds 1 ?_
  rw [rounds_succ]
  go_wp2
  (try simp only [Exit.noGoto_ret, Exit.inBlock, Exit.then])
  (try rw [Exit.noGoto_ret])
  go_ret
  exact ⟨rfl, pw_below_drewN (Below.refl _ _) nd⟩
theorem index_rune_high (r : Int) (h0 : 128 ≤ r) (h1 : r ≤ 1114111) (hv : r < 55296 ∨ 57344 ≤ r) (w : World) : Calls Tryz.prog 101 #[.string dots, .int .i32 r] w fun e w' => e = .returned (.int .i64 (-1)) ∧ Below w.heap.size w w' := by
  by_cases hne : r = 65533
  · subst hne; exact index_rune_error w
  · rcases encode_high r h0 h1 hv with ⟨a, b, he, hb⟩ | ⟨a, b, c, he, hb⟩ | ⟨a, b, c, d, he, _⟩
    · exact index_rune_2 r h0 h1 hv hne a b he hb w
    · exact index_rune_3 r h0 h1 hv hne a b c he hb w
    · exact index_rune_4 r h0 h1 hv hne a b c d he w
/-- Where a rune stands in "._-". -/
def ix (c : Int) : Int := if c = 46 then 0 else if c = 95 then 1 else if c = 45 then 2 else -1
theorem index_ascii (c : Int) (h0 : 0 ≤ c) (h1 : c < 128) : Lib.indexByte dots.data.toList (c.toNat.toUInt8) = ix c := by
  obtain ⟨n, rfl⟩ := Int.eq_ofNat_of_zero_le h0
  have hn : n < 128 := by omega
  have key : ∀ m : Fin 128, Lib.indexByte [46, 95, 45] (m.val.toUInt8) = ix (m.val : Int) := by decide
  exact key ⟨n, hn⟩
def RuneOk (c : Int) : Prop := 0 ≤ c ∧ c ≤ 1114111 ∧ (c < 55296 ∨ 57344 ≤ c)
theorem index_calls (c : Int) (hc : RuneOk c) (w : World) : Calls Tryz.prog 101 #[.string dots, .int .i32 c] w fun e w' => e = .returned (.int .i64 (ix c)) ∧ Below w.heap.size w w' := by
  by_cases h : c < 128
  · have hcon := Any.strings_IndexRune_ascii Tryz.laysIndexRune dots c w hc.1 h
    rw [index_ascii c hc.1 h] at hcon
    exact hcon.mono fun e w' ⟨he, hw⟩ => ⟨he, by rw [hw]; exact Below.refl _ _⟩
  · have e : ix c = -1 := by unfold ix; rw [if_neg (by omega), if_neg (by omega), if_neg (by omega)]
    rw [e]
    exact index_rune_high c (by omega) hc.2.1 hc.2.2 w
set_option maxRecDepth 100000 in
theorem contains_calls (c : Int) (hc : RuneOk c) (w : World) : Calls Tryz.prog 85 #[.string dots, .int .i32 c] w fun e w' => e = .returned (.bool (decide (0 ≤ ix c))) ∧ Below w.heap.size w w' := by
  have hcon := fun W => index_calls c hc W
  unfold dots at hcon ⊢
  generalize ix c = i at hcon ⊢
  go_enter Tryz.func85, Tryz.ntmps85
  go_wp2_with (go_at_call 101; refine (hcon _).mono ?_; rintro e w' ⟨rfl, hb⟩)
  go_ret
  exact ⟨rfl, hb⟩
set_option maxHeartbeats 4000000 in
set_option maxRecDepth 100000 in
theorem within_plain (c : Int) (hc : RuneOk c) (w : World) (h : (97 ≤ c ∧ c ≤ 122) ∨ (65 ≤ c ∧ c ≤ 90) ∨ (48 ≤ c ∧ c ≤ 57)) : Calls Tryz.prog 64 #[.int .i32 c] w fun e w' => e = .returned (.bool true) ∧ Below w.heap.size w w' := by
  rcases h with h | h | h
  · have d1 : decide (97 ≤ c) = true := decide_eq_true h.1
    have d2 : decide (c ≤ 122) = true := decide_eq_true h.2
    clear h hc
    go_enter Tryz.func64, Tryz.ntmps64
    go_wp2
    go_ret
    exact ⟨rfl, Below.refl _ _⟩
  · have d1 : decide (97 ≤ c) = false := decide_eq_false (by omega)
    have d2 : decide (65 ≤ c) = true := decide_eq_true h.1
    have d3 : decide (c ≤ 90) = true := decide_eq_true h.2
    clear h hc
    go_enter Tryz.func64, Tryz.ntmps64
    go_wp2
    go_ret
    exact ⟨rfl, Below.refl _ _⟩
  · have d1 : decide (97 ≤ c) = false := decide_eq_false (by omega)
    have d2 : decide (65 ≤ c) = false := decide_eq_false (by omega)
    have d3 : decide (48 ≤ c) = true := decide_eq_true h.1
    have d4 : decide (c ≤ 57) = true := decide_eq_true h.2
    clear h hc
    go_enter Tryz.func64, Tryz.ntmps64
    go_wp2
    go_ret
    exact ⟨rfl, Below.refl _ _⟩
set_option maxHeartbeats 4000000 in
set_option maxRecDepth 100000 in
theorem within_dots (c : Int) (hc : RuneOk c) (w : World) (h : ¬ ((97 ≤ c ∧ c ≤ 122) ∨ (65 ≤ c ∧ c ≤ 90) ∨ (48 ≤ c ∧ c ≤ 57))) : Calls Tryz.prog 64 #[.int .i32 c] w fun e w' => e = .returned (.bool (decide (0 ≤ ix c) || decide (161 ≤ c))) ∧ Below w.heap.size w w' := by
  have hcon := fun W => contains_calls c hc W
  clear hc
  unfold dots at hcon
  obtain ⟨t, ht⟩ : ∃ t, decide (161 ≤ c) = t := ⟨_, rfl⟩
  generalize decide (0 ≤ ix c) = b at hcon ⊢
  rw [ht]
  have four : c < 48 ∨ (58 ≤ c ∧ c ≤ 64) ∨ (91 ≤ c ∧ c ≤ 96) ∨ 123 ≤ c := by omega
  clear h
  rcases four with h | h | h | h
  · have d1 : decide (97 ≤ c) = false := decide_eq_false (by omega)
    have d2 : decide (65 ≤ c) = false := decide_eq_false (by omega)
    have d3 : decide (48 ≤ c) = false := decide_eq_false (by omega)
    clear h
    cases b <;> cases t
    all_goals
      go_enter Tryz.func64, Tryz.ntmps64
      go_wp2_with (go_at_call 85; refine (hcon _).mono ?_; rintro e w' ⟨rfl, hb⟩)
      go_ret
      exact ⟨rfl, hb⟩
  · have d1 : decide (97 ≤ c) = false := decide_eq_false (by omega)
    have d2 : decide (65 ≤ c) = false := decide_eq_false (by omega)
    have d3 : decide (48 ≤ c) = true := decide_eq_true (by omega)
    have d4 : decide (c ≤ 57) = false := decide_eq_false (by omega)
    clear h
    cases b <;> cases t
    all_goals
      go_enter Tryz.func64, Tryz.ntmps64
      go_wp2_with (go_at_call 85; refine (hcon _).mono ?_; rintro e w' ⟨rfl, hb⟩)
      go_ret
      exact ⟨rfl, hb⟩
  · have d1 : decide (97 ≤ c) = false := decide_eq_false (by omega)
    have d2 : decide (65 ≤ c) = true := decide_eq_true (by omega)
    have d5 : decide (c ≤ 90) = false := decide_eq_false (by omega)
    have d3 : decide (48 ≤ c) = true := decide_eq_true (by omega)
    have d4 : decide (c ≤ 57) = false := decide_eq_false (by omega)
    clear h
    cases b <;> cases t
    all_goals
      go_enter Tryz.func64, Tryz.ntmps64
      go_wp2_with (go_at_call 85; refine (hcon _).mono ?_; rintro e w' ⟨rfl, hb⟩)
      go_ret
      exact ⟨rfl, hb⟩
  · have d1 : decide (97 ≤ c) = true := decide_eq_true (by omega)
    have d6 : decide (c ≤ 122) = false := decide_eq_false (by omega)
    have d2 : decide (65 ≤ c) = true := decide_eq_true (by omega)
    have d5 : decide (c ≤ 90) = false := decide_eq_false (by omega)
    have d3 : decide (48 ≤ c) = true := decide_eq_true (by omega)
    have d4 : decide (c ≤ 57) = false := decide_eq_false (by omega)
    clear h
    cases b <;> cases t
    all_goals
      go_enter Tryz.func64, Tryz.ntmps64
      go_wp2_with (go_at_call 85; refine (hcon _).mono ?_; rintro e w' ⟨rfl, hb⟩)
      go_ret
      exact ⟨rfl, hb⟩
theorem within_calls (n : Nat) (hc : RuneOk (n : Int)) (w : World) : Calls Tryz.prog 64 #[.int .i32 (n : Int)] w fun e w' => e = .returned (.bool (withinB n)) ∧ Below w.heap.size w w' := by
  by_cases h : (97 ≤ (n : Int) ∧ (n : Int) ≤ 122) ∨ (65 ≤ (n : Int) ∧ (n : Int) ≤ 90) ∨ (48 ≤ (n : Int) ∧ (n : Int) ≤ 57)
  · have e : withinB n = true := by unfold withinB; simp; omega
    rw [e]; exact within_plain n hc w h
  · have e : withinB n = (decide (0 ≤ ix (n : Int)) || decide (161 ≤ (n : Int))) := by
      rw [Bool.eq_iff_iff]
      unfold withinB ix
      by_cases c1 : (n : Int) = 46
      · simp [c1]; omega
      · by_cases c2 : (n : Int) = 95
        · simp [c2]; omega
        · by_cases c3 : (n : Int) = 45
          · simp [c3]; omega
          · rw [if_neg c1, if_neg c2, if_neg c3]; simp; omega
    rw [e]; exact within_dots n hc w h
end Go.Proofs.YtfijhbfdkcajjaaGreatDoor.Pr
