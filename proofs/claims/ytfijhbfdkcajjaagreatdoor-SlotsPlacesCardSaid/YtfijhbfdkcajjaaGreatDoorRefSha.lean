/- The reference's digest, and its block of a key. -/
import Derived.Test.YtfijhbfdkcajjaaGreatDoorShaMath
import Derived.Test.YtfijhbfdkcajjaaGreatDoorShaAll
import Derived.Test.YtfijhbfdkcajjaaGreatDoorPadAll
import Derived.Test.YtfijhbfdkcajjaaGreatDoorWWords
import Derived.Laws.AppendOwn
import Derived.Test.YtfijhbfdkcajjaaGreatDoorPrx0
/- The plain law of the reference's digests: its words are the program's. -/
namespace Go.Proofs.YtfijhbfdkcajjaaGreatDoor.Sh
set_option linter.unusedVariables false
set_option linter.unusedSimpArgs false
theorem or_comm_u32 (a b : Int) : Go.bits .or .u32 a b = Go.bits .or .u32 b a := by
  simp only [Go.bits, BitVec.or_comm]
/-- The reference's turning of a word. -/
theorem refRight (n : Nat) (x : Int) : Go.bits .or .u32 (x / 2 ^ n) ((x * 2 ^ (32 - n)) % 4294967296) = rotr n x := or_comm_u32 _ _
/-- All bits turned, by taking away. -/
theorem not_u32 (e : Nat) (he : e < 4294967296) : Go.bits .xor .u32 4294967295 (e : Int) = 4294967295 - (e : Int) := by
  have h1 : (BitVec.ofInt 32 4294967295 ^^^ BitVec.ofNat 32 e).toNat = 4294967295 - e := by
    have h2 : BitVec.ofInt 32 4294967295 = BitVec.allOnes 32 := by decide
    rw [h2, BitVec.allOnes_xor, BitVec.toNat_not, BitVec.toNat_ofNat]
    omega
  show IntKind.u32.wrap _ = _
  have h3 : (BitVec.ofInt 32 4294967295 ^^^ BitVec.ofInt 32 (e : Int)).toNat = 4294967295 - e := by rw [BitVec.ofInt_natCast]; exact h1
  refine (congrArg (fun z : Nat => IntKind.u32.wrap (z : Int)) h3).trans ?_
  rw [IntKind.wrap_u32]
  omega
/-- Two bytes put together bit by bit, the least first: the first k bits. -/
def bitwise (x c : Nat) : Nat → Nat
  | 0 => 0
  | k + 1 => if x / 2 ^ k % 2 = c / 2 ^ k % 2 then bitwise x c k else bitwise x c k + 2 ^ k
theorem bitwise_92 : ∀ x : Fin 256, bitwise x.val 92 8 = (UInt8.ofNat x.val ^^^ 92).toNat := by decide +kernel
theorem bitwise_54 : ∀ x : Fin 256, bitwise x.val 54 8 = (UInt8.ofNat x.val ^^^ 54).toNat := by decide +kernel
theorem bitwise_is (b c : UInt8) (hc : c = 92 ∨ c = 54) : bitwise b.toNat c.toNat 8 = (b ^^^ c).toNat := by
  have hb : b.toNat < 256 := b.toNat_lt
  have e : UInt8.ofNat b.toNat = b := by simp
  rcases hc with rfl | rfl
  · have h := bitwise_92 ⟨b.toNat, hb⟩; rw [e] at h; exact h
  · have h := bitwise_54 ⟨b.toNat, hb⟩; rw [e] at h; exact h
/-- Where the reference's padding ends. -/
theorem pad_end (n : Nat) : (n + (1 + zeros n)) % 64 = 56 := by unfold zeros; omega
theorem pad_before (n k : Nat) (h : k < zeros n) : (n + (1 + k)) % 64 ≠ 56 := by unfold zeros at h; omega
/-- The j least bytes, the greatest first. -/
def lowBytes (m : Nat) : Nat → List UInt8
  | 0 => []
  | j + 1 => UInt8.ofNat (m / 256 ^ j) :: lowBytes m j
theorem lowBytes_8 (n : Nat) : lowBytes (n * 8) 8 = (List.range 8).map (lenByte n) := by
  rfl
theorem padB_ref (n : Nat) : padB n = (128 :: List.replicate (zeros n) 0) ++ lowBytes (n * 8) 8 := by
  rw [lowBytes_8]; rfl
/-- A key's block, zeros put behind it one by one. -/
theorem blockOf_ref (key : ByteArray) : blockOf key = ⟨((keyOf key).data.toList ++ List.replicate (64 - (keyOf key).size) 0).toArray⟩ := by
  unfold blockOf
  apply list_ext
  rw [toList_append]
  have := Lib.repeatL_replicate (0 : UInt8) 1 (64 - (keyOf key).size)
  rw [show List.replicate 1 (0 : UInt8) = [0] from rfl, Nat.mul_one] at this
  rw [this]
/-- Words within their kind. -/
def OkS (s : St8) : Prop := (0 ≤ s.a ∧ s.a < 4294967296) ∧ (0 ≤ s.b ∧ s.b < 4294967296) ∧ (0 ≤ s.c ∧ s.c < 4294967296) ∧ (0 ≤ s.d ∧ s.d < 4294967296) ∧ (0 ≤ s.e ∧ s.e < 4294967296) ∧ (0 ≤ s.f ∧ s.f < 4294967296) ∧ (0 ≤ s.g ∧ s.g < 4294967296) ∧ (0 ≤ s.h ∧ s.h < 4294967296)
theorem okW_mod (x : Int) : 0 ≤ x % 4294967296 ∧ x % 4294967296 < 4294967296 := by omega
theorem OkS_st0 : OkS st0 := by unfold OkS st0; decide
theorem OkS_round (s : St8) (k x : Int) (h : OkS s) : OkS (roundX s k x) := by
  obtain ⟨ha, hb, hc, hd, he, hf, hg, hh⟩ := h
  exact ⟨okW_mod _, ha, hb, hc, okW_mod _, he, hf, hg⟩
theorem OkS_add (x s : St8) : OkS (addX x s) := ⟨okW_mod _, okW_mod _, okW_mod _, okW_mod _, okW_mod _, okW_mod _, okW_mod _, okW_mod _⟩
/-- The reference's choice of bits. -/
def chR (e f g : Int) : Int := Go.bits .xor .u32 (Go.bits .and .u32 e f) (Go.bits .and .u32 (4294967295 - e) g)
theorem chR_is (e f g : Int) (he : 0 ≤ e ∧ e < 4294967296) : chR e f g = chX e f g := by
  obtain ⟨n, rfl⟩ := Int.eq_ofNat_of_zero_le he.1
  unfold chR chX
  rw [← not_u32 n (by omega)]
  rfl
/-- A round, as the reference adds it up. -/
def roundR (s : St8) (k x : Int) : St8 :=
  let one := ((((s.h + big1 s.e) % 4294967296 + chR s.e s.f s.g) % 4294967296 + k) % 4294967296 + x) % 4294967296
  let two := (big0 s.a + majX s.a s.b s.c) % 4294967296
  ⟨(one + two) % 4294967296, s.a, s.b, s.c, (s.d + one) % 4294967296, s.e, s.f, s.g⟩
theorem roundR_is (s : St8) (k x : Int) (h : OkS s) : roundR s k x = roundX s k x := by
  obtain ⟨ha, hb, hc, hd, he, hf, hg, hh⟩ := h
  have e1 : ((((s.h + big1 s.e) % 4294967296 + chR s.e s.f s.g) % 4294967296 + k) % 4294967296 + x) % 4294967296 = roundT1 s k x := by
    rw [chR_is _ _ _ he]
    unfold roundT1
    generalize big1 s.e = p
    generalize chX s.e s.f s.g = q
    omega
  unfold roundR roundX
  simp only [e1]
theorem OkS_stk (s : St8) (b : ByteArray) (h : OkS s) : ∀ k, OkS (stk s b k)
  | 0 => h
  | k + 1 => OkS_round _ _ _ (OkS_stk s b h k)
theorem OkS_next (s : St8) (b : ByteArray) : OkS (nextX s b) := OkS_add _ _
/-- The state behind k rounds, as the reference goes. -/
def stR (s : St8) (b : ByteArray) : Nat → St8
  | 0 => s
  | k + 1 => roundR (stR s b k) (konst.getD k 0) ((wl b 64).getD k 0)
theorem stR_is (s : St8) (b : ByteArray) (h : OkS s) : ∀ k, stR s b k = stk s b k
  | 0 => rfl
  | k + 1 => by
    show roundR (stR s b k) _ _ = roundX (stk s b k) _ _
    rw [stR_is s b h k, roundR_is _ _ _ (OkS_stk s b h k)]
theorem quick_is (s : St8) (b : ByteArray) (h : OkS s) : addX (stR s b 64) s = nextX s b := by
  rw [stR_is s b h]; rfl
end Go.Proofs.YtfijhbfdkcajjaaGreatDoor.Sh

/- The contract of the reference's Quick: its words. -/
namespace Go.Proofs.YtfijhbfdkcajjaaGreatDoor.Sh
open Go.RowKit Go.Proofs.YtfijhbfdkcajjaaGreatDoorW.PrintWords Go.Proofs.YtfijhbfdkcajjaaGreatDoorW.PrintLast Go.Proofs.YtfijhbfdkcajjaaGreatDoorW.PrintMore
set_option linter.unusedVariables false
set_option linter.unusedSimpArgs false
/-- right, of a number of places that is told: it changes nothing. -/
theorem rightQ (n : Nat) (k : Int) (hk : k = (n : Int)) (h1 : 1 ≤ n) (h2 : n ≤ 31) (x : Int) (w : World) : Calls Tryz.prog 130 #[.int .u32 x, .int .u64 k] w fun e w' => e = .returned (.int .u32 (rotr n x)) ∧ w' = w := by
  subst hk
  have e2 : IntKind.u64.wrap (32 - (n : Int)) = ((32 - n : Nat) : Int) := by rw [IntWalk.u64_in _ (by omega)]; omega
  have h3 : (0 : Int) ≤ (n : Int) := by omega
  have h4 : (0 : Int) ≤ ((32 - n : Nat) : Int) := by omega
  have hr := Aside0.mk (refRight n x)
  go_enter Tryz.func130, Tryz.ntmps130
  go_wp2
  go_ret
  exact ⟨by rw [← hr.out]; rfl, rfl⟩
end Go.Proofs.YtfijhbfdkcajjaaGreatDoor.Sh

/- The contract of the reference's Quick. -/
namespace Go.Proofs.YtfijhbfdkcajjaaGreatDoor.Sh
open Go.RowKit Go.Proofs.YtfijhbfdkcajjaaGreatDoorW.PrintWords Go.Proofs.YtfijhbfdkcajjaaGreatDoorW.PrintLast Go.Proofs.YtfijhbfdkcajjaaGreatDoorW.PrintMore
set_option linter.unusedVariables false
set_option linter.unusedSimpArgs false
/-- What Quick's worlds hold: the state, the result's place, the words. -/
def QW (w wr : World) (s : St8) (b : ByteArray) (t : Nat) : Prop :=
  wr.heap[w.heap.size]? = some (.cells s.cells 149 (0, 0)) ∧ wr.heap[w.heap.size + 1]? = some (.cells (St8.cells ⟨0, 0, 0, 0, 0, 0, 0, 0⟩) 149 (0, 0)) ∧ wr.heap[w.heap.size + 1 + 1]? = some (.cells (wCells b t) 161 (0, 0)) ∧ Below w.heap.size w wr
theorem QW.drew {w wr : World} {s : St8} {b : ByteArray} {t : Nat} (h : QW w wr s b t) : QW w wr.drew s b t := ⟨h.1, h.2.1, h.2.2.1, h.2.2.2.drew⟩
theorem QW.drewN {w wr : World} {s : St8} {b : ByteArray} {t : Nat} (n : Nat) (h : QW w wr s b t) : QW w (wr.drewN n) s b t := ⟨h.1, h.2.1, h.2.2.1, belN n h.2.2.2⟩
theorem QW.store {w wr : World} {s : St8} {b : ByteArray} {t : Nat} (h : QW w wr s b t) (ht : t < 64) {x : Int} (hx : x = wNext b (wl b t) t) : QW w (wr.setCell ⟨w.heap.size + 1 + 1, t, none⟩ (.int .u32 x)) s b (t + 1) :=
  ⟨(heap_setCell_other _ _ _ _ (by show w.heap.size ≠ w.heap.size + 1 + 1; omega)).trans h.1, (heap_setCell_other _ _ _ _ (by show w.heap.size + 1 ≠ w.heap.size + 1 + 1; omega)).trans h.2.1, wstore h.2.2.1 ht hx, h.2.2.2.setCell (by show w.heap.size ≤ w.heap.size + 1 + 1; omega) _⟩
theorem QW.other {w wr W : World} {s : St8} {b : ByteArray} {t : Nat} (h : QW w wr s b t) (hk : ∀ k, k ≤ w.heap.size + 1 + 1 → W.heap[k]? = wr.heap[k]?) (hB : Below w.heap.size w W) : QW w W s b t :=
  ⟨(hk _ (by omega)).trans h.1, (hk _ (by omega)).trans h.2.1, (hk _ (by omega)).trans h.2.2.1, hB⟩
theorem rq6 (x : Int) (w : World) : Calls Tryz.prog 130 #[.int .u32 x, .int .u64 6] w fun e w' => e = .returned (.int .u32 (rotr 6 x)) ∧ w' = w := rightQ 6 6 rfl (by decide) (by decide) x w
theorem rq11 (x : Int) (w : World) : Calls Tryz.prog 130 #[.int .u32 x, .int .u64 11] w fun e w' => e = .returned (.int .u32 (rotr 11 x)) ∧ w' = w := rightQ 11 11 rfl (by decide) (by decide) x w
theorem rq25 (x : Int) (w : World) : Calls Tryz.prog 130 #[.int .u32 x, .int .u64 25] w fun e w' => e = .returned (.int .u32 (rotr 25 x)) ∧ w' = w := rightQ 25 25 rfl (by decide) (by decide) x w
theorem rq2 (x : Int) (w : World) : Calls Tryz.prog 130 #[.int .u32 x, .int .u64 2] w fun e w' => e = .returned (.int .u32 (rotr 2 x)) ∧ w' = w := rightQ 2 2 rfl (by decide) (by decide) x w
theorem rq13 (x : Int) (w : World) : Calls Tryz.prog 130 #[.int .u32 x, .int .u64 13] w fun e w' => e = .returned (.int .u32 (rotr 13 x)) ∧ w' = w := rightQ 13 13 rfl (by decide) (by decide) x w
theorem rq22 (x : Int) (w : World) : Calls Tryz.prog 130 #[.int .u32 x, .int .u64 22] w fun e w' => e = .returned (.int .u32 (rotr 22 x)) ∧ w' = w := rightQ 22 22 rfl (by decide) (by decide) x w
theorem bt_at (b : ByteArray) (i : Nat) (h : i < b.size) : (b[i].toNat : Int) = bt b (i : Int) := by unfold bt; simp only [Int.toNat_natCast]; rw [dif_pos h]
set_option maxRecDepth 100000 in
set_option maxHeartbeats 8000000 in
theorem quick_calls (s : St8) (hs : OkS s) (b : ByteArray) (hb : b.size = 64) (A : Option Addr) (c : Nat) (w : World) (hT : ReadsInt w .u32 A 64 konst) : Calls Tryz.prog 117 #[.agg s.cells, .string b, .slice A 64 c] w fun e w' => e = .returned (.agg (nextX s b).cells) ∧ Below w.heap.size w w' := by
  have HS := Aside0.mk hb
  obtain ⟨ad, rfl, hTc⟩ := hT.2.2 (by decide)
  have HT : Aside0 (∀ W, Below w.heap.size w W → ∀ j, j < 64 → W.cell? (ad.add j) = some (.int .u32 (konst.getD j 0))) := ⟨fun W hB j hj => pw_cell_below hB (hTc j hj)⟩
  have HK := Aside0.mk hs
  have HQ : Aside0 (addX (stR s b 64) s = nextX s b) := ⟨quick_is s b hs⟩
  have hI8 : ∀ x : St8, (Tryz.prog.info? 149).map (·.size) = some x.cells.size := fun x => by kernel_rfl
  have h18 : ∀ x : St8, x.cells.all (·.oneCell') = true := fun x => by simp [St8.cells, Value.oneCell']
  have HI8 := Aside0.mk hI8
  have HO8 := Aside0.mk h18
  clear hI8 h18 hb hT hTc hs
  have hI : (Tryz.prog.info? 149).map (·.size) = some s.cells.size := HI8.out s
  go_enter Tryz.func117, Tryz.ntmps117
  go_wp2_with fail
  have HW0 : QW w (((w.alloc (.cells s.cells 149)).alloc (.cells (St8.cells ⟨0, 0, 0, 0, 0, 0, 0, 0⟩) 149)).alloc (.cells (wCells b 0) 161)) s b 0 := by
    have hB : Below w.heap.size w (((w.alloc (.cells s.cells 149)).alloc (.cells (St8.cells ⟨0, 0, 0, 0, 0, 0, 0, 0⟩) 149)).alloc (.cells (wCells b 0) 161)) := (((Below.refl _ _).alloc (Nat.le_refl _) _).alloc (by simp) _).alloc (by simp; omega) _
    have h3 := World.alloc_heap_new ((w.alloc (.cells s.cells 149)).alloc (.cells (St8.cells ⟨0, 0, 0, 0, 0, 0, 0, 0⟩) 149)) (.cells (wCells b 0) 161)
    rw [World.size_alloc, World.size_alloc] at h3
    have h2 := World.alloc_heap_new (w.alloc (.cells s.cells 149)) (.cells (St8.cells ⟨0, 0, 0, 0, 0, 0, 0, 0⟩) 149)
    rw [World.size_alloc] at h2
    refine ⟨?_, ?_, h3, hB⟩
    · exact (Below.heap_alloc _ _ _ (by simp; omega)).trans ((Below.heap_alloc _ _ _ (by simp)).trans (blk_new w _))
    · exact (Below.heap_alloc _ _ _ (by simp)).trans h2
  have HW0 := Aside0.mk HW0
  go_loopw [8] (fun v8 wr => ∃ t : Nat, v8 = .int .i64 (t : Int) ∧ t ≤ 16 ∧ Aside0 (QW w wr s b t)) (fun v8 _ => 16 - (intOf v8).toNat)
  case atStart => exact ⟨0, rfl, by omega, HW0⟩
  case round =>
    obtain ⟨t, rfl, ht, HC⟩ := hrel
    clear HW0
    by_cases hlt : t < 16
    · have d0 : decide ((t : Int) < 16) = true := decide_eq_true (by omega)
      have i1 : (t : Int) < 16 := by omega
      have i2 : (0 : Int) ≤ (t : Int) := by omega
      have hb64 := HS.out
      have e0 : IntKind.i64.wrap (4 * (t : Int)) = 4 * (t : Int) := IntWalk.i64_in _ (by omega)
      have e1 : IntKind.i64.wrap (4 * (t : Int) + 1) = 4 * (t : Int) + 1 := IntWalk.i64_in _ (by omega)
      have e2 : IntKind.i64.wrap (4 * (t : Int) + 2) = 4 * (t : Int) + 2 := IntWalk.i64_in _ (by omega)
      have e3 : IntKind.i64.wrap (4 * (t : Int) + 3) = 4 * (t : Int) + 3 := IntWalk.i64_in _ (by omega)
      have p0 : (0 : Int) ≤ 4 * (t : Int) := by omega
      have p1 : (0 : Int) ≤ 4 * (t : Int) + 1 := by omega
      have p2 : (0 : Int) ≤ 4 * (t : Int) + 2 := by omega
      have p3 : (0 : Int) ≤ 4 * (t : Int) + 3 := by omega
      have l0 : 4 * (t : Int) < (b.size : Int) := by omega
      have l1 : 4 * (t : Int) + 1 < (b.size : Int) := by omega
      have l2 : 4 * (t : Int) + 2 < (b.size : Int) := by omega
      have l3 : 4 * (t : Int) + 3 < (b.size : Int) := by omega
      have i64' : (t : Int) < 64 := by omega
      clear hb64
      go_wp2_with fail
      go_still_tail 31, (by kernel_rfl)
      change wpList _ _ _ _ _ wr.drew
      have HC2 := Aside0.mk HC.out.drew
      obtain ⟨v0, hv0⟩ := wCells_old b t t (by omega)
      have hcell : wr.drew.cell? ⟨w.heap.size + 1 + 1, t, none⟩ = some v0 := (blk_cell HC2.out.2.2.1 t).trans hv0
      have hfro : wr.drew.frozen? ⟨w.heap.size + 1 + 1, t, none⟩ = false := blk_frozen HC2.out.2.2.1 t
      generalize wr.drew = w2 at HC2 hcell hfro ⊢
      clear HC hv0
      go_wp2
      refine ⟨⟨t + 1, by go_num, by omega, ⟨HC2.out.store (by omega) ?_⟩⟩, by simp [intOf]; omega⟩
      have hz := HS.out
      unfold wNext ld4
      rw [if_pos hlt, bt_at b (4 * t) (by omega), bt_at b (4 * t + 1) (by omega), bt_at b (4 * t + 2) (by omega), bt_at b (4 * t + 3) (by omega)]
    · have d0 : decide ((t : Int) < 16) = false := decide_eq_false (by omega)
      obtain rfl : t = 16 := by omega
      clear hlt ht
      go_wp2
      go_loopw [9] (fun v9 wr => ∃ t : Nat, v9 = .int .i64 (t : Int) ∧ 16 ≤ t ∧ t ≤ 64 ∧ Aside0 (QW w wr s b t)) (fun v9 _ => 64 - (intOf v9).toNat)
      case atStart => exact ⟨16, rfl, by omega, by omega, HC⟩
      case round =>
        obtain ⟨t, rfl, h16, ht, HC0⟩ := hrel
        clear HC
        by_cases hlt : t < 64
        · have d0 : decide ((t : Int) < 64) = true := decide_eq_true (by omega)
          have i1 : (t : Int) < 64 := by omega
          have i2 : (0 : Int) ≤ (t : Int) := by omega
          have f1 : IntKind.i64.wrap ((t : Int) - 15) = ((t - 15 : Nat) : Int) := by rw [IntWalk.i64_in _ (by omega)]; omega
          have f2 : IntKind.i64.wrap ((t : Int) - 2) = ((t - 2 : Nat) : Int) := by rw [IntWalk.i64_in _ (by omega)]; omega
          have f3 : IntKind.i64.wrap ((t : Int) - 16) = ((t - 16 : Nat) : Int) := by rw [IntWalk.i64_in _ (by omega)]; omega
          have f4 : IntKind.i64.wrap ((t : Int) - 7) = ((t - 7 : Nat) : Int) := by rw [IntWalk.i64_in _ (by omega)]; omega
          obtain ⟨X15, hX15⟩ : ∃ X, (wl b t).getD (t - 15) 0 = X := ⟨_, rfl⟩
          obtain ⟨X2, hX2⟩ : ∃ X, (wl b t).getD (t - 2) 0 = X := ⟨_, rfl⟩
          obtain ⟨X16, hX16⟩ : ∃ X, (wl b t).getD (t - 16) 0 = X := ⟨_, rfl⟩
          obtain ⟨X7, hX7⟩ : ∃ X, (wl b t).getD (t - 7) 0 = X := ⟨_, rfl⟩
          have x15 : wr.cell? ⟨w.heap.size + 1 + 1, t - 15, none⟩ = some (.int .u32 X15) := (blk_cell HC0.out.2.2.1 _).trans (hX15 ▸ wCells_get b t _ (by omega))
          have x2 : wr.cell? ⟨w.heap.size + 1 + 1, t - 2, none⟩ = some (.int .u32 X2) := (blk_cell HC0.out.2.2.1 _).trans (hX2 ▸ wCells_get b t _ (by omega))
          have x16 : ∀ n, (wr.drewN n).cell? ⟨w.heap.size + 1 + 1, t - 16, none⟩ = some (.int .u32 X16) := fun n => (blk_cell (HC0.out.drewN n).2.2.1 _).trans (hX16 ▸ wCells_get b t _ (by omega))
          have x7 : ∀ n, (wr.drewN n).cell? ⟨w.heap.size + 1 + 1, t - 7, none⟩ = some (.int .u32 X7) := fun n => (blk_cell (HC0.out.drewN n).2.2.1 _).trans (hX7 ▸ wCells_get b t _ (by omega))
          have HN := Aside0.mk (show wNext b (wl b t) t = (X16 + Go.bits .xor .u32 (Go.bits .xor .u32 (rotr 7 X15) (rotr 18 X15)) (X15 / 8) + X7 + Go.bits .xor .u32 (Go.bits .xor .u32 (rotr 17 X2) (rotr 19 X2)) (X2 / 1024)) % 4294967296 from by unfold wNext; rw [if_neg (by omega), hX15, hX2, hX16, hX7]; simp [small0, small1])
          have H16 := Aside0.mk x16
          have H7 := Aside0.mk x7
          have g1 : ((t - 15 : Nat) : Int) < 64 := by omega
          have g2 : ((t - 2 : Nat) : Int) < 64 := by omega
          have g3 : ((t - 16 : Nat) : Int) < 64 := by omega
          have g4 : ((t - 7 : Nat) : Int) < 64 := by omega
          clear hX15 hX2 hX16 hX7 x16 x7
          go_wp2
          go_quiet (fail)
          clear x15 x2
          have HC1 := Aside0.mk (HC0.out.drewN nq)
          have x16 := H16.out nq
          have x7 := H7.out nq
          generalize wr.drewN nq = w1 at HC1 x16 x7 ⊢
          clear HC0 H16 H7
          go_wp2_with fail
          refine wp_region_still_tail 29 (by kernel_rfl) (by kernel_rfl) ?_
          simp only [List.take_succ_cons, List.take_zero, List.drop_succ_cons, List.drop_zero]
          repeat still_step
          still_call (rightQ 7 7 rfl (by decide) (by decide) _ _)
          repeat still_step
          still_call (rightQ 18 18 rfl (by decide) (by decide) _ _)
          repeat still_step
          still_call (rightQ 17 17 rfl (by decide) (by decide) _ _)
          repeat still_step
          still_call (rightQ 19 19 rfl (by decide) (by decide) _ _)
          repeat still_step
          try refine wpStill_nil ?_
          change wpList _ _ _ _ _ w1.drew
          have HC2 := Aside0.mk HC1.out.drew
          obtain ⟨v0, hv0⟩ := wCells_old b t t (by omega)
          have hcell : w1.drew.cell? ⟨w.heap.size + 1 + 1, t, none⟩ = some v0 := (blk_cell HC2.out.2.2.1 t).trans hv0
          have hfro : w1.drew.frozen? ⟨w.heap.size + 1 + 1, t, none⟩ = false := blk_frozen HC2.out.2.2.1 t
          clear x16 x7
          generalize w1.drew = w2 at HC2 hcell hfro ⊢
          clear HC1 hv0
          have hrelI : Aside0 (∃ t' : Nat, Value.int .i64 ((t : Int) + 1) = .int .i64 (t' : Int) ∧ 16 ≤ t' ∧ t' ≤ 64 ∧ Aside0 (QW w (w2.setCell ⟨w.heap.size + 1 + 1, t, none⟩ (.int .u32 ((X16 + Go.bits .xor .u32 (Go.bits .xor .u32 (rotr 7 X15) (rotr 18 X15)) (X15 / 8) + X7 + Go.bits .xor .u32 (Go.bits .xor .u32 (rotr 17 X2) (rotr 19 X2)) (X2 / 1024)) % 4294967296))) s b t')) := ⟨⟨t + 1, by go_num, by omega, by omega, ⟨HC2.out.store hlt HN.out.symm⟩⟩⟩
          go_wp2
          go_roundw
          case rel => first | exact hrelI.out | ((repeat apply Exists.intro); exact ⟨hrelI.out, rfl⟩)
          case measure => simp [intOf]; omega
        · have d0 : decide ((t : Int) < 64) = false := decide_eq_false (by omega)
          obtain rfl : t = 64 := by omega
          clear hlt ht h16
          have hW : Aside0 (wr.heap[w.heap.size]? = some (.cells s.cells 149 (0, 0))) := ⟨HC0.out.1⟩
          have hN : Aside0 ((wr.alloc (.cells #[.int .u32 0, .int .u32 0, .int .u32 0, .int .u32 0, .int .u32 0, .int .u32 0, .int .u32 0, .int .u32 0] 149)).heap[wr.heap.size]? = some (.cells #[.int .u32 0, .int .u32 0, .int .u32 0, .int .u32 0, .int .u32 0, .int .u32 0, .int .u32 0, .int .u32 0] 149 (0, 0))) := ⟨blk_new wr _⟩
          have hz : 0 + s.cells.size ≤ (#[.int .u32 0, .int .u32 0, .int .u32 0, .int .u32 0, .int .u32 0, .int .u32 0, .int .u32 0, .int .u32 0] : Array Value).size := Nat.le_refl 8
          have h1 : s.cells.all (·.oneCell') = true := HO8.out s
          have hi3 := HI8.out s
          go_wp2_with (first | (with_reducible refine wpList_load_row rfl 149 _ rfl w.heap.size rfl 149 s.cells (0, 0) _ hW.out Tryz.underlying149 rfl hi3 ?_) | (with_reducible refine RowStore.wpList_store rfl 149 _ _ rfl wr.heap.size 0 s.cells rfl rfl 149 _ hN.out hz hi3 h1 ?_))
          have hG : w.heap.size + 1 + 1 < wr.heap.size := blk_lt HC0.out.2.2.1
          have HQ2 : Aside0 (QW w ((wr.alloc (.cells #[.int .u32 0, .int .u32 0, .int .u32 0, .int .u32 0, .int .u32 0, .int .u32 0, .int .u32 0, .int .u32 0] 149)).setRow wr.heap.size (RowStore.lay #[.int .u32 0, .int .u32 0, .int .u32 0, .int .u32 0, .int .u32 0, .int .u32 0, .int .u32 0, .int .u32 0] 0 s.cells)) s b 64) := ⟨HC0.out.other (fun k hk => (setRow_other _ _ k _ (by omega)).trans (Below.heap_alloc wr _ k (by omega))) (RowStore.below_setRow (HC0.out.2.2.2.alloc HC0.out.2.2.2.size _) (by omega) _)⟩
          have HN2 := Aside0.mk (RowStore.heap_all (cs := s.cells) hN.out rfl)
          obtain ⟨w1, hw1⟩ : ∃ w1 : World, w1 = wr := ⟨_, rfl⟩
          subst hw1
          clear hW hN HC0 hz h1 hi3
          go_loopw [13] (fun v13 wr => ∃ k : Nat, v13 = .int .i64 (k : Int) ∧ k ≤ 64 ∧ Aside0 (wr.heap[w1.heap.size]? = some (.cells (stR s b k).cells 149 (0, 0))) ∧ Aside0 (QW w wr s b 64)) (fun v13 _ => 64 - (intOf v13).toNat)
          case atStart => exact ⟨0, rfl, by omega, HN2, HQ2⟩
          case round =>
            obtain ⟨k, rfl, hk, HG, HC⟩ := hrel
            clear HN2 HQ2
            by_cases hlt : k < 64
            · have d0 : decide ((k : Int) < 64) = true := decide_eq_true (by omega)
              have i1 : (k : Int) < 64 := by omega
              have i2 : (0 : Int) ≤ (k : Int) := by omega
              obtain ⟨z, hz⟩ : ∃ z, stR s b k = z := ⟨_, rfl⟩
              obtain ⟨x, hx⟩ : ∃ x, (wl b 64).getD k 0 = x := ⟨_, rfl⟩
              obtain ⟨q, hq⟩ : ∃ q, konst.getD k 0 = q := ⟨_, rfl⟩
              have HZ : Aside0 (stR s b (k + 1) = roundR z q x) := ⟨by rw [← hz, ← hx, ← hq]; rfl⟩
              rw [hz] at HG
              have hw : wr.cell? ⟨w.heap.size + 1 + 1, k, none⟩ = some (.int .u32 x) := (blk_cell HC.out.2.2.1 k).trans (hx ▸ wCells_get b 64 k hlt)
              have ht : wr.cell? (ad.add k) = some (.int .u32 q) := hq ▸ HT.out wr HC.out.2.2.2 k hlt
              have hzk : OkS z := by rw [← hz, stR_is s b HK.out k]; exact OkS_stk s b HK.out k
              clear hz hx hq
              obtain ⟨z0, z1, z2, z3, z4, z5, z6, z7⟩ := z
              have HZ4 := Aside0.mk hzk.2.2.2.2.1
              clear hzk
              have c0 : wr.cell? ⟨w1.heap.size, 0, none⟩ = some (.int .u32 z0) := blk_cell HG.out 0
              have c1 : wr.cell? ⟨w1.heap.size, 1, none⟩ = some (.int .u32 z1) := blk_cell HG.out 1
              have c2 : wr.cell? ⟨w1.heap.size, 2, none⟩ = some (.int .u32 z2) := blk_cell HG.out 2
              have c3 : wr.cell? ⟨w1.heap.size, 3, none⟩ = some (.int .u32 z3) := blk_cell HG.out 3
              have c4 : wr.cell? ⟨w1.heap.size, 4, none⟩ = some (.int .u32 z4) := blk_cell HG.out 4
              have c5 : wr.cell? ⟨w1.heap.size, 5, none⟩ = some (.int .u32 z5) := blk_cell HG.out 5
              have c6 : wr.cell? ⟨w1.heap.size, 6, none⟩ = some (.int .u32 z6) := blk_cell HG.out 6
              have c7 : wr.cell? ⟨w1.heap.size, 7, none⟩ = some (.int .u32 z7) := blk_cell HG.out 7
              go_wp2_with fail
              go_quiet (fail)
              go_wp2_with fail
              go_quiet (fail)
              go_wp2_with fail
              go_quiet (first
                | (with_reducible refine (rq6 _ _).mono ?_; rintro en w2 ⟨rfl, rfl⟩; exact ⟨rfl, _, rfl⟩)
                | (with_reducible refine (rq11 _ _).mono ?_; rintro en w2 ⟨rfl, rfl⟩; exact ⟨rfl, _, rfl⟩)
                | (with_reducible refine (rq25 _ _).mono ?_; rintro en w2 ⟨rfl, rfl⟩; exact ⟨rfl, _, rfl⟩))
              go_wp2_with fail
              generalize hone : ((z7 + Go.bits .xor .u32 (Go.bits .xor .u32 (rotr 6 z4) (rotr 11 z4)) (rotr 25 z4) + Go.bits .xor .u32 (Go.bits .and .u32 z4 z5) (Go.bits .and .u32 ((4294967295 - z4) % 4294967296) z6) + q) % 4294967296 + x) % 4294967296 = one
              have HONE := Aside0.mk hone
              clear hone ht hw
              with_reducible refine (rq2 _ _).mono ?_
              rintro en w2 ⟨rfl, rfl⟩
              go_wp2_with fail
              with_reducible refine (rq13 _ _).mono ?_
              rintro en w2 ⟨rfl, rfl⟩
              go_wp2_with fail
              with_reducible refine (rq22 _ _).mono ?_
              rintro en w2 ⟨rfl, rfl⟩
              have hz2 : 0 + (#[.int .u32 ((one + (Go.bits .xor .u32 (Go.bits .xor .u32 (rotr 2 z0) (rotr 13 z0)) (rotr 22 z0) + Go.bits .xor .u32 (Go.bits .xor .u32 (Go.bits .and .u32 z0 z1) (Go.bits .and .u32 z0 z2)) (Go.bits .and .u32 z1 z2))) % 4294967296), .int .u32 z0, .int .u32 z1, .int .u32 z2, .int .u32 ((z3 + one) % 4294967296), .int .u32 z4, .int .u32 z5, .int .u32 z6] : Array Value).size ≤ (St8.cells ⟨z0, z1, z2, z3, z4, z5, z6, z7⟩).size := Nat.le_refl 8
              have hi2 : (Tryz.prog.info? 149).map (·.size) = some (#[.int .u32 ((one + (Go.bits .xor .u32 (Go.bits .xor .u32 (rotr 2 z0) (rotr 13 z0)) (rotr 22 z0) + Go.bits .xor .u32 (Go.bits .xor .u32 (Go.bits .and .u32 z0 z1) (Go.bits .and .u32 z0 z2)) (Go.bits .and .u32 z1 z2))) % 4294967296), .int .u32 z0, .int .u32 z1, .int .u32 z2, .int .u32 ((z3 + one) % 4294967296), .int .u32 z4, .int .u32 z5, .int .u32 z6] : Array Value).size := HI8.out s
              have ho2 : (#[.int .u32 ((one + (Go.bits .xor .u32 (Go.bits .xor .u32 (rotr 2 z0) (rotr 13 z0)) (rotr 22 z0) + Go.bits .xor .u32 (Go.bits .xor .u32 (Go.bits .and .u32 z0 z1) (Go.bits .and .u32 z0 z2)) (Go.bits .and .u32 z1 z2))) % 4294967296), .int .u32 z0, .int .u32 z1, .int .u32 z2, .int .u32 ((z3 + one) % 4294967296), .int .u32 z4, .int .u32 z5, .int .u32 z6] : Array Value).all (·.oneCell') = true := by simp [Value.oneCell']
              have HG3 : Aside0 (∀ n, (wr.drewN n).heap[w1.heap.size]? = some (.cells (St8.cells ⟨z0, z1, z2, z3, z4, z5, z6, z7⟩) 149 (0, 0))) := ⟨fun n => HG.out⟩
              clear c0 c1 c2 c4 c5 c6 c7
              go_wp2_with ((with_reducible refine RowStore.wpList_store rfl 149 _ _ rfl w1.heap.size 0 (#[.int .u32 ((one + (Go.bits .xor .u32 (Go.bits .xor .u32 (rotr 2 z0) (rotr 13 z0)) (rotr 22 z0) + Go.bits .xor .u32 (Go.bits .xor .u32 (Go.bits .and .u32 z0 z1) (Go.bits .and .u32 z0 z2)) (Go.bits .and .u32 z1 z2))) % 4294967296), .int .u32 z0, .int .u32 z1, .int .u32 z2, .int .u32 ((z3 + one) % 4294967296), .int .u32 z4, .int .u32 z5, .int .u32 z6] : Array Value) rfl rfl 149 (St8.cells ⟨z0, z1, z2, z3, z4, z5, z6, z7⟩) (HG3.out _) hz2 hi2 ho2 ?_))
              have HY : (#[.int .u32 ((one + (Go.bits .xor .u32 (Go.bits .xor .u32 (rotr 2 z0) (rotr 13 z0)) (rotr 22 z0) + Go.bits .xor .u32 (Go.bits .xor .u32 (Go.bits .and .u32 z0 z1) (Go.bits .and .u32 z0 z2)) (Go.bits .and .u32 z1 z2))) % 4294967296), .int .u32 z0, .int .u32 z1, .int .u32 z2, .int .u32 ((z3 + one) % 4294967296), .int .u32 z4, .int .u32 z5, .int .u32 z6] : Array Value) = (stR s b (k + 1)).cells := by
                have h4 := HZ4.out
                have h1 := HONE.out
                rw [show (4294967295 - z4) % 4294967296 = 4294967295 - z4 by omega] at h1
                have e1 : (((((z7 + big1 z4) % 4294967296 + chR z4 z5 z6) % 4294967296 + q) % 4294967296 + x) % 4294967296) = one := by
                  rw [← h1]
                  unfold big1 chR
                  generalize Go.bits .xor .u32 (Go.bits .xor .u32 (rotr 6 z4) (rotr 11 z4)) (rotr 25 z4) = p1
                  generalize Go.bits .xor .u32 (Go.bits .and .u32 z4 z5) (Go.bits .and .u32 (4294967295 - z4) z6) = p2
                  omega
                rw [HZ.out]
                unfold roundR
                simp only [e1, St8.cells]
                have e2 : ∀ p1 p2 : Int, (one + (p1 + p2)) % 4294967296 = (one + (p1 + p2) % 4294967296) % 4294967296 := fun p1 p2 => by omega
                rw [e2]
                rfl
              refine ⟨⟨k + 1, by go_num, by omega, ⟨?_⟩, ⟨(HC.out.drewN _).other (fun j hj => setRow_other _ _ j _ (by omega)) (RowStore.below_setRow (HC.out.drewN _).2.2.2 (by omega) _)⟩⟩, by simp [intOf]; omega⟩
              rw [← HY]
              exact RowStore.heap_all (HG3.out _) rfl
            · have d0 : decide ((k : Int) < 64) = false := decide_eq_false (by omega)
              obtain rfl : k = 64 := by omega
              clear hlt hk
              obtain ⟨z, hz⟩ : ∃ z, stR s b 64 = z := ⟨_, rfl⟩
              rw [hz] at HG
              have HZ := Aside0.mk hz
              clear hz
              go_wp2
              obtain ⟨wo, hwo⟩ : ∃ wo : World, wo = wr := ⟨_, rfl⟩
              subst hwo
              go_loopw [22] (fun v22 wr => ∃ i : Nat, v22 = .int .i64 (i : Int) ∧ i ≤ 8 ∧ Aside0 (wr.heap[w1.heap.size]? = some (.cells (mixCells z s i) 149 (0, 0))) ∧ Aside0 (QW w wr s b 64)) (fun v22 _ => 8 - (intOf v22).toNat)
              case atStart => exact ⟨0, rfl, by omega, HG, HC⟩
              case round =>
                obtain ⟨i, rfl, hi8, HG2, HC2⟩ := hrel
                clear HG HC
                by_cases hlt : i < 8
                · have e0 : decide ((i : Int) < 8) = true := decide_eq_true (by omega)
                  have i1 : (i : Int) < 8 := by omega
                  have i2 : (0 : Int) ≤ (i : Int) := by omega
                  obtain ⟨u, hu⟩ : ∃ u, z.list.getD i 0 = u := ⟨_, rfl⟩
                  obtain ⟨v, hv⟩ : ∃ v, s.list.getD i 0 = v := ⟨_, rfl⟩
                  have y1 : wr.cell? ⟨w1.heap.size, i, none⟩ = some (.int .u32 u) := (blk_cell HG2.out i).trans (hu ▸ mix_get z s i hlt)
                  have y2 : wr.cell? ⟨w.heap.size, i, none⟩ = some (.int .u32 v) := (blk_cell HC2.out.1 i).trans (hv ▸ cells_get s i hlt)
                  have hm := mix_set z s i hlt
                  rw [hu, hv] at hm
                  have HM := Aside0.mk hm
                  clear hu hv hm
                  go_wp2
                  go_still_tail 9, (by kernel_rfl)
                  change wpList _ _ _ _ _ wr.drew
                  have HG3 := Aside0.mk (show wr.drew.heap[w1.heap.size]? = some (.cells (mixCells z s i) 149 (0, 0)) from HG2.out)
                  have HC3 := Aside0.mk HC2.out.drew
                  have hcell : wr.drew.cell? ⟨w1.heap.size, i, none⟩ = some (.int .u32 u) := y1
                  have hfro : wr.drew.frozen? ⟨w1.heap.size, i, none⟩ = false := blk_frozen HG3.out i
                  generalize wr.drew = w4 at HG3 HC3 hcell hfro ⊢
                  clear HG2 HC2 y1 y2
                  have hrelI : Aside0 (∃ i' : Nat, Value.int .i64 ((i : Int) + 1) = .int .i64 (i' : Int) ∧ i' ≤ 8 ∧ Aside0 ((w4.setCell ⟨w1.heap.size, i, none⟩ (.int .u32 ((u + v) % 4294967296))).heap[w1.heap.size]? = some (.cells (mixCells z s i') 149 (0, 0))) ∧ Aside0 (QW w (w4.setCell ⟨w1.heap.size, i, none⟩ (.int .u32 ((u + v) % 4294967296))) s b 64)) := ⟨by
                    refine ⟨i + 1, by go_num, by omega, ⟨?_⟩, ⟨HC3.out.other (fun j hj => heap_setCell_other _ _ _ _ (by show j ≠ w1.heap.size; omega)) (HC3.out.2.2.2.setCell (by show w.heap.size ≤ w1.heap.size; omega) _)⟩⟩
                    rw [heap_setCell_same _ _ i _ _ _ HG3.out, HM.out]⟩
                  go_wp2
                  go_roundw
                  case rel => first | exact hrelI.out | ((repeat apply Exists.intro); exact ⟨hrelI.out, rfl⟩)
                  case measure => simp [intOf]; omega
                · have e0 : decide ((i : Int) < 8) = false := decide_eq_false (by omega)
                  obtain rfl : i = 8 := by omega
                  clear hlt hi8
                  have HG3 : Aside0 (wr.heap[w1.heap.size]? = some (.cells (addX z s).cells 149 (0, 0))) := ⟨HG2.out⟩
                  have hi2 := HI8.out (addX z s)
                  have ho2 := HO8.out (addX z s)
                  have hR := HC2.out.2.1
                  have hz2 : 0 + (addX z s).cells.size ≤ (St8.cells ⟨0, 0, 0, 0, 0, 0, 0, 0⟩).size := Nat.le_refl 8
                  have HR := Aside0.mk hR
                  clear hR
                  go_wp2_with (first | (with_reducible refine wpList_load_row rfl 149 _ rfl w1.heap.size rfl 149 (addX z s).cells (0, 0) _ HG3.out Tryz.underlying149 rfl hi2 ?_) | (with_reducible refine RowStore.wpList_store rfl 149 _ _ rfl (w.heap.size + 1) 0 (addX z s).cells rfl rfl 149 (St8.cells ⟨0, 0, 0, 0, 0, 0, 0, 0⟩) HR.out hz2 hi2 ho2 ?_))
                  refine bodyPost_ret (results_cell_row rfl _ _ (w.heap.size + 1) 149 (addX z s).cells (0, 0) _ rfl (RowStore.heap_all HR.out rfl) Tryz.underlying149 rfl hi2) rfl ⟨?_, RowStore.below_setRow HC2.out.2.2.2 (by omega) _⟩
                  rw [← HQ.out, HZ.out]
end Go.Proofs.YtfijhbfdkcajjaaGreatDoor.Sh

/- The contract of the reference's Padding. -/
namespace Go.Proofs.YtfijhbfdkcajjaaGreatDoor.Sh
open Go.RowKit Go.Proofs.YtfijhbfdkcajjaaGreatDoorW.PrintWords Go.Proofs.YtfijhbfdkcajjaaGreatDoorW.PrintLast Go.Proofs.YtfijhbfdkcajjaaGreatDoorW.PrintMore
set_option linter.unusedVariables false
set_option linter.unusedSimpArgs false
open Go.Proofs.YtfijhbfdkcajjaaGreatDoor.Pr (paymasterref05_Padding.f paymasterref05_Padding.l0 paymasterref05_Padding.l1 paymasterref05_Padding.calls)
def lowInts (m : Nat) : Nat → List Int
  | 0 => []
  | j + 1 => ((m / 256 ^ j % 256 : Nat) : Int) :: lowInts m j
theorem lowInts_len (m : Nat) : ∀ j, (lowInts m j).length = j
  | 0 => rfl
  | j + 1 => by simp [lowInts, lowInts_len m j]
theorem pad_step (pre low : List Int) (q j k : Nat) (h8 : j < 8) (hq : q < 18446744073709551616) (hl : low.length = j) :
    paymasterref05_Padding.l1 (k + 1) pre (q : Int) low (j : Int) = paymasterref05_Padding.l1 k pre ((q / 256 : Nat) : Int) (((q % 256 : Nat) : Int) :: low) ((j + 1 : Nat) : Int) := by
  have e1 : Int.tmod (q : Int) 256 % 256 = ((q % 256 : Nat) : Int) := by
    rw [Int.tmod_eq_emod_of_nonneg (Int.natCast_nonneg _)]; omega
  have e2 : IntKind.u64.wrap (Int.tdiv (q : Int) 256) = ((q / 256 : Nat) : Int) := by
    rw [Int.tdiv_eq_ediv_of_nonneg (Int.natCast_nonneg _), IntWalk.u64_in _ (by omega)]
    omega
  have e3 : wrap64 ((j : Int) + 1) = ((j + 1 : Nat) : Int) := by unfold wrap64; omega
  have h8' : (j : Int) < 8 := by omega
  have hl' : ([((q % 256 : Nat) : Int)] : List Int).length + low.length < 140737488355328 := by rw [List.length_singleton]; omega
  rw [paymasterref05_Padding.l1, if_pos h8', Option.bind_some, e1, e2, e3, if_pos hl', List.singleton_append]
theorem pad_fin (pre low : List Int) (q : Int) (k : Nat) (hp : pre.length ≤ 1000) (hl : low.length = 8) : paymasterref05_Padding.l1 (k + 1) pre q low (8 : Int) = some (strOfNums (pre ++ low)) := by
  rw [paymasterref05_Padding.l1, if_neg (by omega), if_pos (by omega)]
theorem pad_l1 (pre : List Int) (hp : pre.length ≤ 1000) (m : Nat) (hm : m < 18446744073709551616) (d : Nat) : ∀ (j k q : Nat), j + d = 8 → d + 1 ≤ k → q = m / 256 ^ j → paymasterref05_Padding.l1 k pre (q : Int) (lowInts m j) (j : Int) = some (strOfNums (pre ++ lowInts m 8)) := by
  induction d with
  | zero =>
    intro j k q hj hk hq
    obtain ⟨k, rfl⟩ : ∃ q, k = q + 1 := ⟨k - 1, by omega⟩
    obtain rfl : j = 8 := by omega
    exact pad_fin pre _ _ k hp (lowInts_len m 8)
  | succ d ih =>
    intro j k q hj hk hq
    obtain ⟨k, rfl⟩ : ∃ q, k = q + 1 := ⟨k - 1, by omega⟩
    have hx : q ≤ m := hq ▸ Nat.div_le_self _ _
    have h := ih (j + 1) k (q / 256) (by omega) (by omega) (by rw [hq, Nat.pow_succ, Nat.div_div_eq_div_mul])
    rw [pad_step pre _ q j k (by omega) (by omega) (lowInts_len m j), ← h, lowInts, ← hq]
theorem pad_l0 (n : Nat) (hn : n < 1152921504606846976) : ∀ (d j k : Nat), j + d = zeros n → d + 12 ≤ k → paymasterref05_Padding.l0 k (n : Int) ((128 :: List.replicate j 0 : List Int)) = some (strOfNums ((128 :: List.replicate (zeros n) 0 : List Int) ++ lowInts (n * 8) 8))
  | 0, j, k, hj, hk => by
    obtain ⟨k, rfl⟩ : ∃ q, k = q + 1 := ⟨k - 1, by omega⟩
    obtain rfl : j = zeros n := by omega
    have hz : zeros n < 64 := Nat.mod_lt _ (by decide)
    have h := pad_end n
    have e0 : IntKind.u64.wrap (((128 :: List.replicate (zeros n) 0 : List Int).length : Int)) = ((1 + zeros n : Nat) : Int) := by
      rw [List.length_cons, List.length_replicate, IntWalk.u64_in _ (by omega)]; omega
    have e1 : IntKind.u64.wrap ((n : Int) + ((1 + zeros n : Nat) : Int)) = ((n + (1 + zeros n) : Nat) : Int) := by rw [IntWalk.u64_in _ (by omega)]; omega
    have e2 : IntKind.u64.wrap ((n : Int) * 8) = ((n * 8 : Nat) : Int) := by rw [IntWalk.u64_in _ (by omega)]; omega
    rw [paymasterref05_Padding.l0, e0, e1, if_pos (by rw [Int.tmod_eq_emod_of_nonneg (by omega)]; omega), e2]
    exact pad_l1 (128 :: List.replicate (zeros n) 0) (by rw [List.length_cons, List.length_replicate]; omega) (n * 8) (by omega) 8 0 k (n * 8) (by omega) (by omega) (by rw [Nat.pow_zero, Nat.div_one])
  | d + 1, j, k, hj, hk => by
    obtain ⟨k, rfl⟩ : ∃ q, k = q + 1 := ⟨k - 1, by omega⟩
    have hz : zeros n < 64 := Nat.mod_lt _ (by decide)
    have h := pad_before n j (by omega)
    have ih := pad_l0 n hn d (j + 1) k (by omega) (by omega)
    have e0 : IntKind.u64.wrap (((128 :: List.replicate j 0 : List Int).length : Int)) = ((1 + j : Nat) : Int) := by
      rw [List.length_cons, List.length_replicate, IntWalk.u64_in _ (by omega)]; omega
    have e1 : IntKind.u64.wrap ((n : Int) + ((1 + j : Nat) : Int)) = ((n + (1 + j) : Nat) : Int) := by rw [IntWalk.u64_in _ (by omega)]; omega
    rw [paymasterref05_Padding.l0, e0, e1, if_neg (by rw [Int.tmod_eq_emod_of_nonneg (by omega)]; omega), if_pos (by rw [List.length_cons, List.length_replicate]; omega)]
    rw [List.cons_append, ← List.replicate_succ']
    exact ih
theorem ofNat_mod (a : Nat) : UInt8.ofNat (a % 256) = UInt8.ofNat a := by
  apply UInt8.toNat_inj.1
  simp
theorem map_low (m : Nat) : ∀ j, (lowInts m j).map (fun x => UInt8.ofNat x.toNat) = lowBytes m j
  | 0 => rfl
  | j + 1 => by
    rw [lowInts, lowBytes, List.map_cons, map_low m j, Int.toNat_natCast, ofNat_mod]
theorem pad_bytes (n : Nat) : strOfNums ((128 :: List.replicate (zeros n) 0 : List Int) ++ lowInts (n * 8) 8) = padA n := by
  unfold padA
  rw [padB_ref]
  unfold strOfNums
  rw [List.map_append, List.map_cons, List.map_replicate]
  rw [map_low (n * 8) 8]
  rfl
theorem refPad_calls (n : Nat) (hn : n < 1152921504606846976) (w : World) : Calls Tryz.prog 114 #[.int .u64 (n : Int)] w fun e w' => e = .returned (.string (padA n)) ∧ Below w.heap.size w w' := by
  have hz : zeros n < 64 := Nat.mod_lt _ (by decide)
  refine paymasterref05_Padding.calls 100 (n : Int) _ w ?_
  unfold paymasterref05_Padding.f
  rw [← pad_bytes]
  exact pad_l0 n hn (zeros n) 0 100 (by omega) (by omega)
end Go.Proofs.YtfijhbfdkcajjaaGreatDoor.Sh

/- The reference's table of constants. -/
namespace Go.Proofs.YtfijhbfdkcajjaaGreatDoor.Sh
open Go.RowKit Go.Proofs.YtfijhbfdkcajjaaGreatDoorW.PrintWords Go.Proofs.YtfijhbfdkcajjaaGreatDoorW.PrintLast Go.Proofs.YtfijhbfdkcajjaaGreatDoorW.PrintMore
set_option linter.unusedVariables false
theorem table_calls (w : World) : Calls Tryz.prog 115 #[] w fun e w' => ∃ A c, e = .returned (.slice A 64 c) ∧ ReadsInt w' .u32 A 64 konst ∧ Below w.heap.size w w' := by
  refine (Go.Proofs.YtfijhbfdkcajjaaGreatDoor.Pr.paymasterref04_Table.calls konst w rfl).mono ?_
  rintro e w' ⟨v, rfl, hR, hB⟩
  obtain ⟨A, c, rfl⟩ := Kd.R_slice hR
  exact ⟨A, c, rfl, Kd.reads_of_C (d := (0 : Int)) (Kd.R_reads' hR).2.2, hB⟩
theorem add_blk (a : Addr) (n : Nat) : (a.add n).block = a.block := by unfold Addr.add; split <;> rfl
theorem reads_other {w W : World} {k : IntKind} {A : Option Addr} {n : Nat} {xs : List Int} (h : ReadsInt w k A n xs) (hk : ∀ ad, A = some ad → W.heap[ad.block]? = w.heap[ad.block]?) : ReadsInt W k A n xs := by
  refine ⟨h.1, h.2.1, fun hn => ?_⟩
  obtain ⟨ad, e, hc⟩ := h.2.2 hn
  refine ⟨ad, e, fun j hj => ?_⟩
  have := hc j hj
  unfold World.cell? at this ⊢
  rw [add_blk, hk ad e, ← add_blk ad j]
  exact this
theorem reads_lt {w : World} {k : IntKind} {A : Option Addr} {n : Nat} {xs : List Int} (h : ReadsInt w k A n xs) (hn : 0 < n) : ∀ ad, A = some ad → ad.block < w.heap.size := by
  intro ad e
  obtain ⟨ad', e', hc⟩ := h.2.2 hn
  rw [e] at e'
  cases e'
  exact add_blk ad 0 ▸ World.block_lt_of_cell? w _ (hc 0 hn)
end Go.Proofs.YtfijhbfdkcajjaaGreatDoor.Sh

/- The contract of the reference's Start. -/
namespace Go.Proofs.YtfijhbfdkcajjaaGreatDoor.Sh
open Go.RowKit Go.Proofs.YtfijhbfdkcajjaaGreatDoorW.PrintWords Go.Proofs.YtfijhbfdkcajjaaGreatDoorW.PrintLast Go.Proofs.YtfijhbfdkcajjaaGreatDoorW.PrintMore
set_option linter.unusedVariables false
set_option linter.unusedSimpArgs false
set_option maxRecDepth 100000 in
theorem start_calls (w : World) : Calls Tryz.prog 116 #[] w fun e w' => e = .returned (.agg st0.cells) ∧ Below w.heap.size w w' := by
  have hI : (Tryz.prog.info? 149).map (·.size) = some st0.cells.size := by kernel_rfl
  go_enter Tryz.func116, Tryz.ntmps116
  go_wp2
  refine bodyPost_ret (results_cell_row rfl _ _ w.heap.size 149 st0.cells (0, 0) _ rfl (blk_new w (.cells st0.cells 149 (0, 0))) Tryz.underlying149 rfl hI) rfl ⟨rfl, (Below.refl _ _).alloc (Nat.le_refl _) _⟩
end Go.Proofs.YtfijhbfdkcajjaaGreatDoor.Sh

/- The contract of the reference's Sum. -/
namespace Go.Proofs.YtfijhbfdkcajjaaGreatDoor.Sh
open Go.RowKit Go.Proofs.YtfijhbfdkcajjaaGreatDoorW.PrintWords Go.Proofs.YtfijhbfdkcajjaaGreatDoorW.PrintLast Go.Proofs.YtfijhbfdkcajjaaGreatDoorW.PrintMore
set_option linter.unusedVariables false
set_option linter.unusedSimpArgs false
set_option maxRecDepth 100000 in
set_option maxHeartbeats 4000000 in
theorem refSum_calls (s : ByteArray) (hs : s.size < 1125899906842624) (w : World) : Calls Tryz.prog 99 #[.string s] w fun e w' => e = .returned (.string (shaSum s)) ∧ Below w.heap.size w w' := by
  have HR : Aside0 (shaSum s = strOfNums (stateBytes (foldFull st0 ((s ++ padA s.size).size / 64) (s ++ padA s.size)))) := ⟨shaSum_whole s⟩
  have e0 : IntKind.u64.wrap (s.size : Int) = (s.size : Int) := IntWalk.u64_in _ (by omega)
  have HA : Aside0 ((s ++ padA s.size).size < 1125899906842724) := ⟨by have := padA_size s.size; rw [ByteArray.size_append]; omega⟩
  have HP : Aside0 (∀ W, Calls Tryz.prog 114 #[.int .u64 (s.size : Int)] W fun e w' => e = .returned (.string (padA s.size)) ∧ Below W.heap.size W w') := ⟨fun W => refPad_calls s.size (by omega) W⟩
  have HI8 : Aside0 (∀ x : St8, (Tryz.prog.info? 149).map (·.size) = some x.cells.size) := ⟨fun x => by kernel_rfl⟩
  have HO8 : Aside0 (∀ x : St8, x.cells.all (·.oneCell') = true) := ⟨fun x => by simp [St8.cells, Value.oneCell']⟩
  have k1 : ¬ (9223372036854775807 < s.size + (padA s.size).size) := by have := padA_size s.size; omega
  have k2 : ¬ ((9223372036854775807 : Int) < (s.size : Int) + ((padA s.size).size : Int)) := by omega
  have k3 : (s.size : Int) + ((padA s.size).size : Int) ≤ 9223372036854775807 := by omega
  have k4 : s.size + (padA s.size).size ≤ 9223372036854775807 := by omega
  clear hs
  go_enter Tryz.func99, Tryz.ntmps99
  go_wp2_with fail
  refine (HP.out _).mono ?_
  rintro en w1 ⟨rfl, hb1⟩
  clear HP e0
  obtain ⟨all, hall⟩ : ∃ all, s ++ padA s.size = all := ⟨_, rfl⟩
  rw [hall] at HR HA
  go_wp2_with fail
  refine (table_calls _).mono ?_
  rintro en w2 ⟨A, c, rfl, hA, hb2⟩
  go_wp2_with fail
  refine (start_calls _).mono ?_
  rintro en w3 ⟨rfl, hb3⟩
  have HB3 : Aside0 (Below w.heap.size w w3) := ⟨(hb1.trans (hb2.mono hb1.size)).trans (hb3.mono (hb1.trans (hb2.mono hb1.size)).size)⟩
  have HA3 := Aside0.mk (hA.below hb3)
  clear hb1 hb2 hb3 hA
  have hN : Aside0 ((w3.alloc (.cells #[.int .u32 0, .int .u32 0, .int .u32 0, .int .u32 0, .int .u32 0, .int .u32 0, .int .u32 0, .int .u32 0] 149)).heap[w3.heap.size]? = some (.cells #[.int .u32 0, .int .u32 0, .int .u32 0, .int .u32 0, .int .u32 0, .int .u32 0, .int .u32 0, .int .u32 0] 149 (0, 0))) := ⟨blk_new w3 _⟩
  have hz : 0 + st0.cells.size ≤ (#[.int .u32 0, .int .u32 0, .int .u32 0, .int .u32 0, .int .u32 0, .int .u32 0, .int .u32 0, .int .u32 0] : Array Value).size := Nat.le_refl 8
  have h1 := HO8.out st0
  have hi3 := HI8.out st0
  go_wp2_with ((with_reducible refine RowStore.wpList_store rfl 149 _ _ rfl w3.heap.size 0 st0.cells rfl rfl 149 _ hN.out hz hi3 h1 ?_))
  have HX := Aside0.mk (RowStore.heap_all (cs := st0.cells) hN.out rfl)
  have HB4 : Aside0 (Below w.heap.size w ((w3.alloc (.cells #[.int .u32 0, .int .u32 0, .int .u32 0, .int .u32 0, .int .u32 0, .int .u32 0, .int .u32 0, .int .u32 0] 149)).setRow w3.heap.size (RowStore.lay #[.int .u32 0, .int .u32 0, .int .u32 0, .int .u32 0, .int .u32 0, .int .u32 0, .int .u32 0, .int .u32 0] 0 st0.cells))) := ⟨RowStore.below_setRow (HB3.out.alloc HB3.out.size _) HB3.out.size _⟩
  have HA4 : Aside0 (ReadsInt ((w3.alloc (.cells #[.int .u32 0, .int .u32 0, .int .u32 0, .int .u32 0, .int .u32 0, .int .u32 0, .int .u32 0, .int .u32 0] 149)).setRow w3.heap.size (RowStore.lay #[.int .u32 0, .int .u32 0, .int .u32 0, .int .u32 0, .int .u32 0, .int .u32 0, .int .u32 0, .int .u32 0] 0 st0.cells)) .u32 A 64 konst) := ⟨reads_other (HA3.out.allocS _) (fun ad e => setRow_other _ _ _ _ (by have := reads_lt HA3.out (by decide) ad e; omega))⟩
  have HL : Aside0 (∀ ad, A = some ad → ad.block < w3.heap.size) := ⟨reads_lt HA3.out (by decide)⟩
  generalize (w3.alloc (.cells #[.int .u32 0, .int .u32 0, .int .u32 0, .int .u32 0, .int .u32 0, .int .u32 0, .int .u32 0, .int .u32 0] 149)).setRow w3.heap.size (RowStore.lay #[.int .u32 0, .int .u32 0, .int .u32 0, .int .u32 0, .int .u32 0, .int .u32 0, .int .u32 0, .int .u32 0] 0 st0.cells) = w4 at HX HB4 HA4 ⊢
  clear hN hz h1 hi3 HA3 hall k1 k2 k3 k4
  go_loopw [6] (fun v6 wr => ∃ (k p : Nat) (z : St8), v6 = .int .i64 (p : Int) ∧ Aside0 (p = 64 * k) ∧ p ≤ all.size ∧ Aside0 (OkS z) ∧ Aside0 (foldFull z (all.size / 64 - k) (all.extract p all.size) = foldFull st0 (all.size / 64) all) ∧ Aside0 (wr.heap[w3.heap.size]? = some (.cells z.cells 149 (0, 0))) ∧ Aside0 (ReadsInt wr .u32 A 64 konst) ∧ Aside0 (Below w.heap.size w wr)) (fun v6 _ => all.size - (intOf v6).toNat)
  case atStart => exact ⟨0, 0, st0, rfl, ⟨rfl⟩, by omega, ⟨OkS_st0⟩, ⟨by rw [Nat.sub_zero, show all.extract 0 all.size = all from by simp]⟩, HX, HA4, HB4⟩
  case round =>
    obtain ⟨k, p, z, rfl, HPK, hpa, HZ, HF, HC, HT, HB⟩ := hrel
    clear HX HA4 HB4
    by_cases hlt : p + 64 ≤ all.size
    · have hal := HA.out
      have w0 : IntKind.i64.wrap ((p : Int) + 64) = (p : Int) + 64 := IntWalk.i64_in _ (by omega)
      have w1' : wrap64 ((p : Int) + 64) = (p : Int) + 64 := by unfold wrap64; omega
      have d1 : ¬ ((all.size : Int) < (p : Int) + 64) := by omega
      have d0 : decide ((p : Int) + 64 ≤ (all.size : Int)) = true := decide_eq_true (by omega)
      have p0 : (0 : Int) ≤ (p : Int) := by omega
      have p1 : (p : Int) ≤ (p : Int) + 64 := by omega
      have p2 : (p : Int) + 64 ≤ (all.size : Int) := by omega
      clear hal
      obtain ⟨q, hq⟩ : ∃ q, all.extract p (p + 64) = q := ⟨_, rfl⟩
      have hqs : q.size = 64 := by rw [← hq]; simp; omega
      have HN : Aside0 (∀ W, ReadsInt W .u32 A 64 konst → Calls Tryz.prog 117 #[.agg z.cells, .string q, .slice A 64 c] W fun e w' => e = .returned (.agg (nextX z q).cells) ∧ Below W.heap.size W w') := ⟨fun W hW => quick_calls z HZ.out q hqs A c W hW⟩
      have HY : Aside0 (OkS (nextX z q)) := ⟨OkS_next z q⟩
      have HF2 : Aside0 (foldFull (nextX z q) (all.size / 64 - (k + 1)) (all.extract (p + 64) all.size) = foldFull st0 (all.size / 64) all) := ⟨by
        have hp := HPK.out
        rw [← HF.out, ← hq, hp, show 64 * k + 64 = 64 * (k + 1) by omega, show all.size / 64 - k = (all.size / 64 - (k + 1)) + 1 by omega]
        exact (foldFull_step z all k _ (by omega)).symm⟩
      generalize nextX z q = y at HN HY HF2
      clear HF hqs HZ
      obtain ⟨z0, z1, z2, z3, z4, z5, z6, z7⟩ := z
      have c0 : wr.cell? ⟨w3.heap.size, 0, none⟩ = some (.int .u32 z0) := blk_cell HC.out 0
      have c1 : wr.cell? ⟨w3.heap.size, 1, none⟩ = some (.int .u32 z1) := blk_cell HC.out 1
      have c2 : wr.cell? ⟨w3.heap.size, 2, none⟩ = some (.int .u32 z2) := blk_cell HC.out 2
      have c3 : wr.cell? ⟨w3.heap.size, 3, none⟩ = some (.int .u32 z3) := blk_cell HC.out 3
      have c4 : wr.cell? ⟨w3.heap.size, 4, none⟩ = some (.int .u32 z4) := blk_cell HC.out 4
      have c5 : wr.cell? ⟨w3.heap.size, 5, none⟩ = some (.int .u32 z5) := blk_cell HC.out 5
      have c6 : wr.cell? ⟨w3.heap.size, 6, none⟩ = some (.int .u32 z6) := blk_cell HC.out 6
      have c7 : wr.cell? ⟨w3.heap.size, 7, none⟩ = some (.int .u32 z7) := blk_cell HC.out 7
      go_wp2_with fail
      go_still_tail 7, (by kernel_rfl)
      change wpList _ _ _ _ _ wr.drew
      have HC2 := Aside0.mk (show wr.drew.heap[w3.heap.size]? = some (.cells (St8.cells ⟨z0, z1, z2, z3, z4, z5, z6, z7⟩) 149 (0, 0)) from HC.out)
      have HT2 := Aside0.mk (show ReadsInt wr.drew .u32 A 64 konst from HT.out)
      have HB2 := Aside0.mk HB.out.drew
      generalize wr.drew = w5 at HC2 HT2 HB2 ⊢
      clear HC HT HB c0 c1 c2 c3 c4 c5 c6 c7
      go_wp2_with fail
      have HN2 : Aside0 (∀ W, ReadsInt W .u32 A 64 konst → Calls Tryz.prog 117 #[.agg #[.int .u32 z0, .int .u32 z1, .int .u32 z2, .int .u32 z3, .int .u32 z4, .int .u32 z5, .int .u32 z6, .int .u32 z7], .string q, .slice A 64 c] W fun e w' => e = .returned (.agg y.cells) ∧ Below W.heap.size W w') := ⟨HN.out⟩
      rw [hq]
      with_reducible refine (HN2.out _ HT2.out).mono ?_
      rintro en w6 ⟨rfl, hb6⟩
      have HC3 := Aside0.mk (blk_below HC2.out hb6)
      have HT3 := Aside0.mk (HT2.out.below hb6)
      have HB3' : Aside0 (Below w.heap.size w w6) := ⟨HB2.out.trans (hb6.mono HB2.out.size)⟩
      clear HN HN2 HC2 HT2 HB2 hb6
      have hz2 : 0 + y.cells.size ≤ (St8.cells ⟨z0, z1, z2, z3, z4, z5, z6, z7⟩).size := Nat.le_refl 8
      have hi2 := HI8.out y
      have ho2 := HO8.out y
      go_wp2_with ((with_reducible refine RowStore.wpList_store rfl 149 _ _ rfl w3.heap.size 0 y.cells rfl rfl 149 (St8.cells ⟨z0, z1, z2, z3, z4, z5, z6, z7⟩) HC3.out hz2 hi2 ho2 ?_))
      have hrelI : Aside0 (∃ (k' p' : Nat) (z' : St8), Value.int .i64 ((p : Int) + 64) = .int .i64 (p' : Int) ∧ Aside0 (p' = 64 * k') ∧ p' ≤ all.size ∧ Aside0 (OkS z') ∧ Aside0 (foldFull z' (all.size / 64 - k') (all.extract p' all.size) = foldFull st0 (all.size / 64) all) ∧ Aside0 ((w6.setRow w3.heap.size (RowStore.lay (St8.cells ⟨z0, z1, z2, z3, z4, z5, z6, z7⟩) 0 y.cells)).heap[w3.heap.size]? = some (.cells z'.cells 149 (0, 0))) ∧ Aside0 (ReadsInt (w6.setRow w3.heap.size (RowStore.lay (St8.cells ⟨z0, z1, z2, z3, z4, z5, z6, z7⟩) 0 y.cells)) .u32 A 64 konst) ∧ Aside0 (Below w.heap.size w (w6.setRow w3.heap.size (RowStore.lay (St8.cells ⟨z0, z1, z2, z3, z4, z5, z6, z7⟩) 0 y.cells)))) := ⟨by
        have hpk := HPK.out
        refine ⟨k + 1, p + 64, y, by push_cast; rfl, ⟨by omega⟩, by omega, HY, HF2, ⟨RowStore.heap_all HC3.out rfl⟩, ⟨reads_other HT3.out (fun ad e => setRow_other _ _ _ _ (by have := HL.out ad e; omega))⟩, ⟨RowStore.below_setRow HB3'.out HB3.out.size _⟩⟩⟩
      go_roundw
      case rel => first | exact hrelI.out | ((repeat apply Exists.intro); exact ⟨hrelI.out, rfl⟩)
      case measure => simp [intOf]; omega
    · have hal := HA.out
      have w0 : IntKind.i64.wrap ((p : Int) + 64) = (p : Int) + 64 := IntWalk.i64_in _ (by omega)
      have w1' : wrap64 ((p : Int) + 64) = (p : Int) + 64 := by unfold wrap64; omega
      have d1 : (all.size : Int) < (p : Int) + 64 := by omega
      have d0 : decide ((p : Int) + 64 ≤ (all.size : Int)) = false := decide_eq_false (by omega)
      have HS : Aside0 (shaSum s = strOfNums (stateBytes z)) := ⟨by
        have hpk := HPK.out
        rw [HR.out, ← HF.out, show all.size / 64 - k = 0 by omega]; rfl⟩
      clear hal HT HF
      go_wp2
      obtain ⟨wo, hwo⟩ : ∃ wo : World, wo = wr := ⟨_, rfl⟩
      subst hwo
      have hinfo : Aside0 ((Tryz.prog.info? 5).map (fun i => (i.zero, i.size, i.bytes)) = some (some (.int .u8 0), 1, 1)) := ⟨by kernel_rfl⟩
      have HG : Aside0 (w3.heap.size < wo.heap.size) := ⟨blk_lt HC.out⟩
      go_loopw [7, 8] (fun v7 v8 wr => ∃ i : Nat, v8 = .int .i64 (i : Int) ∧ i ≤ 8 ∧ Aside0 (wr.ownsRow (w3.heap.size + 1) 5 1 v7 ((z.list.take i).flatMap wordBytes).length (nums .u8 ((z.list.take i).flatMap wordBytes))) ∧ Aside0 (Below (w3.heap.size + 1) wo wr)) (fun _ v8 _ => 8 - (intOf v8).toNat)
      case atStart => exact ⟨0, rfl, by omega, ⟨⟨rfl, .inl ⟨rfl, rfl⟩⟩⟩, ⟨(Below.refl wo.heap.size wo).mono (by have := HG.out; omega)⟩⟩
      case round =>
        obtain ⟨i, rfl, hi, HO, HB2⟩ := hrel
        have HS2 : Aside0 (w3.heap.size + 1 ≤ wr.heap.size) := ⟨by have := HB2.out.size; have := HG.out; omega⟩
        have HC2 : Aside0 (wr.heap[w3.heap.size]? = some (.cells z.cells 149 (0, 0))) := ⟨(HB2.out.block _ (by omega)).trans HC.out⟩
        by_cases hlt : i < 8
        · have e0 : decide ((i : Int) < 8) = true := decide_eq_true (by omega)
          have i1 : (i : Int) < 8 := by omega
          have i2 : (0 : Int) ≤ (i : Int) := by omega
          have hx := cells_get z i hlt
          have hts := take_step z i hlt
          have hlen : ((z.list.take i).flatMap wordBytes).length ≤ 32 := by rw [bytes_len]; simp [St8.list]; omega
          have hr : 0 ≤ z.list.getD i 0 := by
            obtain ⟨⟨h0, _⟩, ⟨h1, _⟩, ⟨h2, _⟩, ⟨h3, _⟩, ⟨h4, _⟩, ⟨h5, _⟩, ⟨h6, _⟩, ⟨h7, _⟩⟩ := HZ.out
            match i, hlt with
            | 0, _ => exact h0
            | 1, _ => exact h1
            | 2, _ => exact h2
            | 3, _ => exact h3
            | 4, _ => exact h4
            | 5, _ => exact h5
            | 6, _ => exact h6
            | 7, _ => exact h7
          generalize (z.list.take i).flatMap wordBytes = bs at HO hts hlen
          generalize z.list.getD i 0 = x at hx hts hr
          have y1 : wr.cell? ⟨w3.heap.size, i, none⟩ = some (.int .u32 x) := (blk_cell HC2.out i).trans hx
          have t1 : Int.tdiv x 16777216 = x / 16777216 := Int.tdiv_eq_ediv_of_nonneg hr
          have t2 : Int.tdiv x 65536 = x / 65536 := Int.tdiv_eq_ediv_of_nonneg hr
          have t3 : Int.tdiv x 256 = x / 256 := Int.tdiv_eq_ediv_of_nonneg hr
          have t4 : Int.tmod x 256 = x % 256 := Int.tmod_eq_emod_of_nonneg hr
          have HTS := Aside0.mk hts
          clear hts hlt hx hr HC2
          obtain ⟨A3, c3, rfl⟩ := own_slice HO.out
          have HO1 := Aside0.mk (HO.out.alloc (.cells #[.int .u8 (x / 16777216 % 256), .int .u8 (x / 65536 % 256), .int .u8 (x / 256 % 256), .int .u8 (x % 256)] 5 (0, 0)))
          have HB1 : Aside0 (Below (w3.heap.size + 1) wo (wr.alloc (.cells #[.int .u8 (x / 16777216 % 256), .int .u8 (x / 65536 % 256), .int .u8 (x / 256 % 256), .int .u8 (x % 256)] 5))) := ⟨HB2.out.alloc HS2.out _⟩
          have HL1 : Aside0 (w3.heap.size + 1 ≤ (wr.alloc (.cells #[.int .u8 (x / 16777216 % 256), .int .u8 (x / 65536 % 256), .int .u8 (x / 256 % 256), .int .u8 (x % 256)] 5)).heap.size) := ⟨by have := HS2.out; simp; omega⟩
          have hl2 : (bs.length + 4) * 1 ≤ 140737488355328 := by omega
          have HL2 := Aside0.mk hl2
          clear HO HB2 hl2 hlen
          go_wp2_with (at_builtin; refine print_append_row (w3.heap.size + 1) rfl (.tmp 40) (.tmp 55) 82 5 .u8 1 rfl Tryz.underlying82 hinfo.out (by decide) (.slice A3 bs.length c3) bs (wordBytes x) (some ⟨wr.heap.size, 0, none⟩) 4 4 rfl rfl HO1.out (reads4 wr x) HB1.out HL1.out HL2.out ?_; intro v1 w1 hown hB hg hat)
          go_roundw
          case rel => exact ⟨i + 1, by go_num, by omega, ⟨by rw [HTS.out]; exact hown⟩, ⟨hB⟩⟩
          case measure => simp [intOf]; omega
        · have e0 : decide ((i : Int) < 8) = false := decide_eq_false (by omega)
          obtain rfl : i = 8 := by omega
          have hcv := own_string Tryz.underlying82 Tryz.underlying5 Tryz.underlying9 HO.out
          have hst : (z.list.take 8).flatMap wordBytes = stateBytes z := rfl
          rw [hst] at hcv
          go_wp2
          go_ret
          exact ⟨by rw [HS.out]; rfl, HB.out.trans (HB2.out.mono (by have := HB3.out.size; omega))⟩
end Go.Proofs.YtfijhbfdkcajjaaGreatDoor.Sh

/- append(v, x), v a row that '[]byte(s)' made (its cells bear that conversion's mark behind their end). -/
namespace Go.ConvRow
open Go Go.RowKit Go.Proofs.YtfijhbfdkcajjaaGreatDoorW.PrintWords
/-- A row of one-cell elements of the call's own, whose mark, if there is one, lies behind its end. -/
def ownsQ (w : World) (base : Nat) (e : TypeId) (v : Value) (n : Nat) (xs : List Value) : Prop :=
  xs.length = n ∧ ∃ (g cap : Nat) (cur : Array Value) (fz : Nat × Nat), v = .slice (some ⟨g, 0, none⟩) n cap ∧ base ≤ g ∧ w.heap[g]? = some (.cells cur e fz) ∧ (cap ≤ fz.1 ∨ fz.2 = 0) ∧ n ≤ cap ∧ cap ≤ maxLen ∧ cur.size = cap ∧ cur.toList.take n = xs
theorem ownsQ.alloc {w : World} {base : Nat} {e : TypeId} {v : Value} {n : Nat} {xs : List Value} (h : ownsQ w base e v n xs) (o : Obj) : ownsQ (w.alloc o) base e v n xs := by
  obtain ⟨hl, g, cap, cur, fz, hv, hb, hg, r⟩ := h
  have hlt : g < w.heap.size := by
    rcases Nat.lt_or_ge g w.heap.size with h' | h'
    · exact h'
    · simp [Array.getElem?_eq_none h'] at hg
  exact ⟨hl, g, cap, cur, fz, hv, hb, (Below.heap_alloc w o g hlt).trans hg, r⟩
theorem ownsQ.cells {w : World} {base : Nat} {e : TypeId} {n : Nat} {xs : List Value} {g cap : Nat} (h : ownsQ w base e (.slice (some ⟨g, 0, none⟩) n cap) n xs) : ∀ j u, xs[j]? = some u → w.cell? ((⟨g, 0, none⟩ : Addr).add j) = some u := by
  intro j u hu
  obtain ⟨hl, g', cap', cur, fz, hv, hb, hg, hf, hn, hm, hc, ht⟩ := h
  injection hv with h1 h2 h3
  injection h1 with h1
  injection h1 with h1
  subst h1
  rw [add_plain, cell_of_row w g j cur e fz hg]
  rw [← ht, List.getElem?_take] at hu
  split at hu
  · simpa using hu
  · cases hu
theorem ownsQ_bytes (W : World) (e : TypeId) (s : ByteArray) (base : Nat) (hb : base ≤ W.heap.size) (hs : s.size ≤ 1000000) :
    ownsQ (Lib.bytesWorld W e s) base e (.slice (some ⟨W.heap.size, 0, none⟩) s.size (grownCap W s.size 0 e)) s.size (nums .u8 (bytesOf s)) := by
  have hge := grownCap_ge W s.size 0 e
  have hz : (Lib.bytesCells W e s).size = grownCap W s.size 0 e := by
    unfold Lib.bytesCells
    rw [Array.size_append, Array.size_map, Array.size_replicate]
    have : s.data.size = s.size := rfl
    omega
  refine ⟨by simp [nums, bytesOf_length], W.heap.size, _, _, _, rfl, hb, Lib.bytesWorld_at_new W e s, .inl (Nat.le_of_eq hz.symm), hge, grownCap_le_maxLen W s.size 0 e (by simp only [maxLen]; omega), hz, ?_⟩
  have hl : (s.data.toList.map fun b => Value.int .u8 (b.toNat : Int)).length = s.size := by rw [List.length_map]; rfl
  unfold Lib.bytesCells
  rw [Array.toList_append, Array.toList_map, List.take_left' hl]
  simp [nums, bytesOf, Function.comp_def]
section
variable {P : Program} {ops : Array Oper} {rest : List Oper} {o : Oper} {a : Act} {Q : Exit → Act → World → Prop}
theorem run_room1 (w : World) (t ty e : TypeId) (i : TypeInfo) (ht : P.underlying t = some (.slice e)) (hi : P.info? e = some i) (h1 : i.size = 1)
    (g n cap : Nat) (cur : Array Value) (fz : Nat × Nat) (hg : w.heap[g]? = some (.cells cur e fz)) (hf : cap ≤ fz.1 ∨ fz.2 = 0) (hc : cur.size = cap)
    (b : Addr) (c : Nat) (u : Value) (hu : w.cell? b = some u) (h1u : u.oneCell' = true) (hroom : n + 1 ≤ cap) :
    (Builtin.append_ #[t, t] ty #[.slice (some ⟨g, 0, none⟩) n cap, .slice (some b) 1 c]).run P w = .ok (.slice (some ⟨g, 0, none⟩) (n + 1) cap) (w.setRow g (cur.setIfInBounds n u)) := by
  have hfirst := run_firstCells_some (P := P) w i.size 1 b 1 c [u] (by rw [h1]; rfl) (by
    intro j v hv
    match j, hv with
    | 0, hv => simp at hv; subst hv; exact hu
    | j + 1, hv => simp at hv)
  have hcell : w.cell? ⟨g, n, none⟩ = some cur[n] := by simp [World.cell?, hg, show n < cur.size by omega]
  have hfro : w.frozen? ⟨g, n, none⟩ = false := by
    unfold World.frozen?
    rw [hg]
    obtain ⟨lo, hi⟩ := fz
    rcases hf with hf | hf
    · have : ¬ lo ≤ n := by have : cap ≤ lo := hf; omega
      simp [this]
    · have : hi = 0 := hf
      subst this
      simp
  have hst : (storeCells ⟨g, n, none⟩ [u]).run P w = .ok () (w.setRow g (cur.setIfInBounds n u)) := by
    have hadd : (⟨g, n, none⟩ : Addr).add 0 = ⟨g, n, none⟩ := by unfold Addr.add; simp
    have h2 : (store (⟨g, n, none⟩ : Addr) u).run P w = .ok () (w.setRow g (cur.setIfInBounds n u)) := by
      rw [run_store P w _ u _ h1u, hcell]
      simp [hfro, setCell_eq_setRow w g n cur e fz u hg]
    simp only [storeCells, hadd, Sem.run_bind, h2, Result.andThen_ok]
    rfl
  have hadd2 : (⟨g, 0, none⟩ : Addr).add (n * i.size) = ⟨g, n, none⟩ := by rw [h1, Nat.mul_one, add_plain]
  simp [Builtin.append_, run_underlying ht, sizeOf, typeInfo, hi, Builtin.lenOf, hroom, hfirst, hadd2, hst]
theorem wpList_append_Q {w0 W : World} (base : Nat) (hgd : o.guard = none) (s x : Operand) (t e : TypeId) (z : Value) (bytes : Nat)
    (ho : o.op = .call { callee := .builtin .append, args := #[s, x], argTypes := #[t, t] })
    (ht : P.underlying t = some (.slice e)) (hinfo : (P.info? e).map (fun i => (i.zero, i.size, i.bytes)) = some (some z, 1, bytes)) (hz : z.cells.size = 1)
    (v : Value) (n : Nat) (xs : List Value) (u : Value) (hs : a.eval s = v) (hx : a.eval x = .slice (some ⟨W.heap.size, 0, none⟩) 1 1) (h1u : u.oneCell' = true)
    (HO : ownsQ W base e v n xs) (HB : Below base w0 W) (hbase : base ≤ W.heap.size) (hl : (n + 1) * bytes ≤ 140737488355328) (hl2 : n + 1 ≤ 1000000)
    (h : ∀ v1 w1, ownsQ w1 base e v1 (n + 1) (xs ++ [u]) → Below base w0 w1 → wpList P ops Q rest (a.put o.dst v1) w1) :
    wpList P ops Q (o :: rest) a (W.alloc (.cells #[u] e)) := by
  obtain ⟨i, hi, hzz⟩ := Option.map_eq_some_iff.1 hinfo
  simp only [Prod.mk.injEq] at hzz
  obtain ⟨hz0, hz1, hz2⟩ := hzz
  have hu : (W.alloc (.cells #[u] e)).cell? ⟨W.heap.size, 0, none⟩ = some u := by
    rw [cell_of_row _ _ 0 #[u] e (0, 0) (heap_alloc_new W (.cells #[u] e))]; rfl
  have HA := HO.alloc (.cells #[u] e)
  have HBA : Below base w0 (W.alloc (.cells #[u] e)) := HB.alloc hbase _
  have hrun : ∃ v1 w1, (Builtin.append_ #[t, t] o.type #[v, .slice (some ⟨W.heap.size, 0, none⟩) 1 1]).run P (W.alloc (.cells #[u] e)) = .ok v1 w1 ∧ ownsQ w1 base e v1 (n + 1) (xs ++ [u]) ∧ Below base w0 w1 := by
    obtain ⟨hxl, g, cap, cur, fz, rfl, hbg, hg, hf, hn, hm, hc, htake⟩ := HA
    by_cases hroom : n + 1 ≤ cap
    · refine ⟨_, _, run_room1 _ t o.type e i ht hi hz1 g n cap cur fz hg hf hc ⟨W.heap.size, 0, none⟩ 1 u hu h1u hroom, ⟨by rw [List.length_append, hxl]; rfl, g, cap, _, fz, rfl, hbg, setRow_heap _ g cur _ e _ hg, hf, hroom, hm, by simpa using hc, ?_⟩, RowStore.below_setRow HBA hbg _⟩
      rw [Array.toList_setIfInBounds, List.take_set, List.take_succ_eq_append_getElem (by rw [Array.length_toList]; omega), htake, List.set_append_right _ _ (by omega), hxl, Nat.sub_self]
      rfl
    · have holds : ∀ j w, xs[j]? = some w → (W.alloc (.cells #[u] e)).cell? ((⟨g, 0, none⟩ : Addr).add j) = some w := ownsQ.cells ⟨hxl, g, cap, cur, fz, rfl, hbg, hg, hf, hn, hm, hc, htake⟩
      have hr := run_append_grow (P := P) (W.alloc (.cells #[u] e)) t o.type e i z ht hi hz0 ⟨g, 0, none⟩ n cap xs (by rw [hz1, hxl, Nat.mul_one]) holds ⟨W.heap.size, 0, none⟩ 1 1 [u] (by rw [hz1]; rfl) (by
        intro j v hv
        match j, hv with
        | 0, hv => simp at hv; subst hv; exact hu
        | j + 1, hv => simp at hv) (by omega) (by omega) (growslice_fits (by omega) (by rw [hz2]; exact hl))
      have hge := grownCap_ge (W.alloc (.cells #[u] e)) (n + 1) cap e
      refine ⟨_, _, hr, ⟨by rw [List.length_append, hxl]; rfl, _, _, _, _, rfl, Nat.le_trans hbase (by simp), heap_alloc_new _ _, .inr rfl, hge, grownCap_le_maxLen _ _ _ _ (by simp only [maxLen]; omega), ?_, ?_⟩, (HBA.drew).alloc (Nat.le_trans hbase (by simp)) _⟩
      · simp only [Array.size_append, List.size_toArray, size_zeroCells, hz, hxl, List.length_singleton, Nat.mul_one]
        omega
      · simp only [Array.toList_append, List.append_assoc]
        rw [← List.append_assoc, List.take_left' (by rw [List.length_append, hxl]; rfl)]
  obtain ⟨v1, w1, hr, r1, r2⟩ := hrun
  refine wpList_plain hgd fun _ hK => ?_
  unfold Oper.wp execOp
  simp only [ho, resolve, invoke, builtin, Sem.run_bind, Sem.run_pure, Result.andThen_ok, List.map_toArray, List.map_cons, List.map_nil, hs, hx, hr]
  exact hK _ _ (h v1 w1 r1 r2)
end
end Go.ConvRow

/- The contract of the reference's Block. -/
namespace Go.Proofs.YtfijhbfdkcajjaaGreatDoor.Sh
open Go.RowKit Go.Proofs.YtfijhbfdkcajjaaGreatDoorW.PrintWords Go.Proofs.YtfijhbfdkcajjaaGreatDoorW.PrintLast Go.Proofs.YtfijhbfdkcajjaaGreatDoorW.PrintMore
set_option linter.unusedVariables false
set_option linter.unusedSimpArgs false
theorem ref_block_bytes (k : ByteArray) (j : Nat) : strOfNums (bytesOf k ++ List.replicate j 0) = ⟨(k.data.toList ++ List.replicate j 0).toArray⟩ := by
  unfold strOfNums
  rw [List.map_append, List.map_replicate]
  congr 2
  simp only [bytesOf, List.map_map]
  have : ((fun n : Int => UInt8.ofNat n.toNat) ∘ fun b : UInt8 => ((b.toNat : Nat) : Int)) = id := by funext b; simp
  rw [this, List.map_id]
  rfl
theorem _root_.Go.ConvRow.ownsQ_string {P : Program} {w : World} {base n c : Nat} {src dst e : TypeId} {A : Option Addr} {xs : List Int} (hs : P.underlying src = some (.slice e)) (he : P.underlying e = some (.int .u8)) (hd : P.underlying dst = some .string) (h : ConvRow.ownsQ w base e (.slice A n c) n (nums .u8 xs)) : (convert src dst (.slice A n c)).run P w = .ok (.string (strOfNums xs)) w := by
  have hl : xs.length = n := by have := h.1; simpa [nums] using this
  have hR : ReadsInt w .u8 A n xs := by
    have h0 := h
    obtain ⟨_, g, cap, cur, fz, hv, _, _, _, hn, hm, _, _⟩ := h0
    injection hv with h1 h2 h3
    subst h1
    refine ⟨hl, by simp only [maxLen] at hm; omega, fun _ => ⟨_, rfl, fun j hj => ?_⟩⟩
    subst h3
    refine ConvRow.ownsQ.cells h j _ ?_
    have hj' : j < xs.length := by omega
    simp [nums, List.getElem?_eq_getElem hj', List.getD_eq_getElem?_getD]
  exact string_of_reads hs he hd hR
set_option maxRecDepth 100000 in
set_option maxHeartbeats 4000000 in
theorem refBlock_calls (key : ByteArray) (hk : key.size < 1125899906842624) (w : World) : Calls Tryz.prog 98 #[.string key] w fun e w' => e = .returned (.string (blockOf key)) ∧ Below w.heap.size w w' := by
  have hinfo : Aside0 ((Tryz.prog.info? 5).map (fun i => (i.zero, i.size, i.bytes)) = some (some (.int .u8 0), 1, 1)) := ⟨by kernel_rfl⟩
  have kb := fun (s : ByteArray) W => print_bytes (P := Tryz.prog) 9 82 5 Tryz.underlying9 Tryz.underlying82 Tryz.underlying5 s W
  by_cases hc : 64 < key.size
  · have c0 : decide ((64 : Int) < (key.size : Int)) = true := decide_eq_true (by omega)
    have c1 : (64 : Int) < (key.size : Int) := by omega
    have HS : Aside0 (∀ W, Calls Tryz.prog 99 #[.string key] W fun e w' => e = .returned (.string (shaSum key)) ∧ Below W.heap.size W w') := ⟨fun W => refSum_calls key hk W⟩
    have HE0 : Aside0 (keyOf key = shaSum key) := ⟨by unfold keyOf; rw [if_pos (by omega)]⟩
    go_enter Tryz.func98, Tryz.ntmps98
    go_wp2_with fail
    refine (HS.out _).mono ?_
    rintro en w1 ⟨rfl, hb1⟩
    have HB := Aside0.mk hb1
    obtain ⟨kk, hkk⟩ : ∃ kk, shaSum key = kk := ⟨_, rfl⟩
    have HK : Aside0 (kk.size ≤ 64) := ⟨by rw [← hkk]; have := shaSum_size key; omega⟩
    rw [hkk] at HE0 ⊢
    have HE := HE0
    clear hb1 HS c0 c1 hkk HE0
    go_wp2
    go_loopw [3] (fun v3 wr => ∃ j : Nat, kk.size + j ≤ 64 ∧ Aside0 (ConvRow.ownsQ wr w.heap.size 5 v3 (kk.size + j) (nums .u8 (bytesOf kk ++ List.replicate j 0))) ∧ Aside0 (Below w.heap.size w wr)) (fun v3 _ => 64 - (match v3 with | .slice _ n _ => n | _ => 0))
    case atStart => exact ⟨0, by have := HK.out; omega, ⟨by rw [List.replicate_zero, List.append_nil]; exact ConvRow.ownsQ_bytes _ _ kk _ HB.out.size (by have := HK.out; omega)⟩, ⟨bytes_below HB.out HB.out.size _ _⟩⟩
    case round =>
      obtain ⟨j, hj, HO, HB2⟩ := hrel
      have hO := HO.out
      obtain ⟨hl, g, cap, cur, fz, hv, hr⟩ := hO
      subst hv
      clear hl hr
      by_cases hlt : kk.size + j < 64
      · have d0 : decide (((kk.size + j : Nat) : Int) < 64) = true := decide_eq_true (by omega)
        have d1 : ((kk.size : Int) + (j : Int)) < 64 := by omega
        have hl2 : (kk.size + j + 1) * 1 ≤ 140737488355328 := by omega
        have hl3 : kk.size + j + 1 ≤ 1000000 := by omega
        have HL2 := Aside0.mk hl2
        have HL3 := Aside0.mk hl3
        have HX : Aside0 (nums .u8 (bytesOf kk ++ List.replicate j 0) ++ [.int .u8 0] = nums .u8 (bytesOf kk ++ List.replicate (j + 1) 0)) := ⟨by rw [List.replicate_succ', ← List.append_assoc, nums_append (ys := [0])]; rfl⟩
        clear hl2 hl3
        go_wp2_with (at_builtin; refine ConvRow.wpList_append_Q w.heap.size rfl (.tmp 14) (.tmp 15) 82 5 (.int .u8 0) 1 rfl Tryz.underlying82 hinfo.out rfl (.slice (some ⟨g, 0, none⟩) (kk.size + j) cap) (kk.size + j) (nums .u8 (bytesOf kk ++ List.replicate j 0)) (.int .u8 0) rfl rfl rfl HO.out HB2.out HB2.out.size HL2.out HL3.out ?_; intro v1 w5 hown hB)
        have hown2 := Aside0.mk hown
        have hB2 := Aside0.mk hB
        clear hown hB
        have hO := hown2.out
        obtain ⟨hl, g, cap, cur, fz, hv, hr⟩ := hO
        subst hv
        clear hl hr
        go_roundw
        case rel => exact ⟨j + 1, by omega, ⟨HX.out ▸ hown2.out⟩, hB2⟩
        case measure => simp; omega
      · have d0 : decide (((kk.size + j : Nat) : Int) < 64) = false := decide_eq_false (by omega)
        have d1 : ¬ (((kk.size : Int) + (j : Int)) < 64) := by omega
        have hcv := ConvRow.ownsQ_string Tryz.underlying82 Tryz.underlying5 Tryz.underlying9 HO.out
        have HJ : Aside0 (strOfNums (bytesOf kk ++ List.replicate j 0) = blockOf key) := ⟨by rw [blockOf_ref, HE.out, ref_block_bytes, show j = 64 - kk.size by omega]⟩
        go_wp2
        go_ret
        exact ⟨by rw [← HJ.out]; rfl, HB2.out⟩
  · have c0 : decide ((64 : Int) < (key.size : Int)) = false := decide_eq_false (by omega)
    have c1 : ¬ ((64 : Int) < (key.size : Int)) := by omega
    have HB : Aside0 (Below w.heap.size w w) := ⟨Below.refl _ _⟩
    obtain ⟨kk, hkk⟩ : ∃ kk, key = kk := ⟨_, rfl⟩
    have HE : Aside0 (keyOf key = kk) := ⟨by unfold keyOf; rw [if_neg (by omega), hkk]⟩
    have HK : Aside0 (kk.size ≤ 64) := ⟨by rw [← hkk]; omega⟩
    subst hkk
    obtain ⟨kk, hkk⟩ : ∃ kk, kk = key := ⟨_, rfl⟩
    subst hkk
    go_enter Tryz.func98, Tryz.ntmps98
    go_wp2
    go_loopw [3] (fun v3 wr => ∃ j : Nat, kk.size + j ≤ 64 ∧ Aside0 (ConvRow.ownsQ wr w.heap.size 5 v3 (kk.size + j) (nums .u8 (bytesOf kk ++ List.replicate j 0))) ∧ Aside0 (Below w.heap.size w wr)) (fun v3 _ => 64 - (match v3 with | .slice _ n _ => n | _ => 0))
    case atStart => exact ⟨0, by have := HK.out; omega, ⟨by rw [List.replicate_zero, List.append_nil]; exact ConvRow.ownsQ_bytes _ _ kk _ HB.out.size (by have := HK.out; omega)⟩, ⟨bytes_below HB.out HB.out.size _ _⟩⟩
    case round =>
      obtain ⟨j, hj, HO, HB2⟩ := hrel
      have hO := HO.out
      obtain ⟨hl, g, cap, cur, fz, hv, hr⟩ := hO
      subst hv
      clear hl hr
      by_cases hlt : kk.size + j < 64
      · have d0 : decide (((kk.size + j : Nat) : Int) < 64) = true := decide_eq_true (by omega)
        have d1 : ((kk.size : Int) + (j : Int)) < 64 := by omega
        have hl2 : (kk.size + j + 1) * 1 ≤ 140737488355328 := by omega
        have hl3 : kk.size + j + 1 ≤ 1000000 := by omega
        have HL2 := Aside0.mk hl2
        have HL3 := Aside0.mk hl3
        have HX : Aside0 (nums .u8 (bytesOf kk ++ List.replicate j 0) ++ [.int .u8 0] = nums .u8 (bytesOf kk ++ List.replicate (j + 1) 0)) := ⟨by rw [List.replicate_succ', ← List.append_assoc, nums_append (ys := [0])]; rfl⟩
        clear hl2 hl3
        go_wp2_with (at_builtin; refine ConvRow.wpList_append_Q w.heap.size rfl (.tmp 14) (.tmp 15) 82 5 (.int .u8 0) 1 rfl Tryz.underlying82 hinfo.out rfl (.slice (some ⟨g, 0, none⟩) (kk.size + j) cap) (kk.size + j) (nums .u8 (bytesOf kk ++ List.replicate j 0)) (.int .u8 0) rfl rfl rfl HO.out HB2.out HB2.out.size HL2.out HL3.out ?_; intro v1 w5 hown hB)
        have hown2 := Aside0.mk hown
        have hB2 := Aside0.mk hB
        clear hown hB
        have hO := hown2.out
        obtain ⟨hl, g, cap, cur, fz, hv, hr⟩ := hO
        subst hv
        clear hl hr
        go_roundw
        case rel => exact ⟨j + 1, by omega, ⟨HX.out ▸ hown2.out⟩, hB2⟩
        case measure => simp; omega
      · have d0 : decide (((kk.size + j : Nat) : Int) < 64) = false := decide_eq_false (by omega)
        have d1 : ¬ (((kk.size : Int) + (j : Int)) < 64) := by omega
        have hcv := ConvRow.ownsQ_string Tryz.underlying82 Tryz.underlying5 Tryz.underlying9 HO.out
        have HJ : Aside0 (strOfNums (bytesOf kk ++ List.replicate j 0) = blockOf kk) := ⟨by rw [blockOf_ref, HE.out, ref_block_bytes, show j = 64 - kk.size by omega]⟩
        go_wp2
        go_ret
        exact ⟨by rw [← HJ.out]; rfl, HB2.out⟩
end Go.Proofs.YtfijhbfdkcajjaaGreatDoor.Sh

/- The reference's Block in the print's form. -/
namespace Go.Proofs.YtfijhbfdkcajjaaGreatDoor.Pr
open Go.RowKit Go.Proofs.YtfijhbfdkcajjaaGreatDoorW.PrintWords Go.Proofs.YtfijhbfdkcajjaaGreatDoorW.PrintLast Go.Proofs.YtfijhbfdkcajjaaGreatDoorW.PrintMore
set_option linter.unusedVariables false
def paymasterref06_Block.f (a0 : ByteArray) : Option ByteArray := if a0.size < 1125899906842624 then some (Sh.blockOf a0) else none
theorem paymasterref06_Block.calls (a0 r : ByteArray) (w : World) (h : paymasterref06_Block.f a0 = some r) : Calls Tryz.prog 98 #[.string a0] w fun e w' => e = .returned (.string r) ∧ Below w.heap.size w w' := by
  unfold paymasterref06_Block.f at h
  by_cases hc : a0.size < 1125899906842624
  · rw [if_pos hc] at h
    obtain rfl := Option.some.inj h
    exact Sh.refBlock_calls a0 hc w
  · rw [if_neg hc] at h; cases h
end Go.Proofs.YtfijhbfdkcajjaaGreatDoor.Pr

/- The reference's Sum in the print's form. -/
namespace Go.Proofs.YtfijhbfdkcajjaaGreatDoor.Pr
open Go.RowKit Go.Proofs.YtfijhbfdkcajjaaGreatDoorW.PrintWords Go.Proofs.YtfijhbfdkcajjaaGreatDoorW.PrintLast Go.Proofs.YtfijhbfdkcajjaaGreatDoorW.PrintMore
set_option linter.unusedVariables false
def paymasterref05_Sum.f (a0 : ByteArray) : Option ByteArray := if a0.size < 1125899906842624 then some (Sh.shaSum a0) else none
theorem paymasterref05_Sum.calls (a0 r : ByteArray) (w : World) (h : paymasterref05_Sum.f a0 = some r) : Calls Tryz.prog 99 #[.string a0] w fun e w' => e = .returned (.string r) ∧ Below w.heap.size w w' := by
  unfold paymasterref05_Sum.f at h
  by_cases hc : a0.size < 1125899906842624
  · rw [if_pos hc] at h
    obtain rfl := Option.some.inj h
    exact Sh.refSum_calls a0 hc w
  · rw [if_neg hc] at h; cases h
end Go.Proofs.YtfijhbfdkcajjaaGreatDoor.Pr
