/- Plain: the reference's reading of a rune, and of an Id, against the model's own decoding. -/
import Derived.Test.YtfijhbfdkcajjaaGreatDoorUtfRef
import Derived.Lib.ValidLaws
import Derived.Lib.TrimUEq
import Derived.Lib.RuneCount
namespace Go.Proofs.YtfijhbfdkcajjaaGreatDoor.Pr
open Go.RowKit Go.Proofs.YtfijhbfdkcajjaaGreatDoorW.PrintWords Go.Proofs.YtfijhbfdkcajjaaGreatDoorW.PrintLast Go.Proofs.YtfijhbfdkcajjaaGreatDoorW.PrintMore
set_option linter.unusedVariables false

theorem bt_get (s : ByteArray) (n : Nat) : bt s (n : Int) = ((s.get! n).toNat : Int) := by
  unfold bt
  rw [Int.toNat_natCast]
  by_cases h : n < s.size
  · rw [dif_pos h]
    congr 2
    cases s with
    | mk d => exact (getElem!_pos d n h).symm
  · rw [dif_neg h]
    cases s with
    | mk d =>
      show (0 : Int) = ((d[n]!).toNat : Int)
      rw [getElem!_neg d n h]; rfl
theorem byte_lt (s : ByteArray) (n : Nat) : (s.get! n).toNat < 256 := UInt8.toNat_lt _
theorem w64 {x : Int} (h0 : -1000000000 ≤ x) (h1 : x ≤ 1000000000) : wrap64 x = x := by unfold wrap64; omega

def badAt (s : ByteArray) (p : Nat) : Bool := (Utf8.decode s p).1 == 65533 && (Utf8.decode s p).2 == 1
/-- One more byte of a rune. -/
theorem rune_step (s : ByteArray) (p i : Nat) (many n least : Int) (k : Nat) (hp : p ≤ 100000) (hi : (i : Int) < many) (hm : many ≤ 4) (h0 : 0 ≤ n) (h1 : n ≤ 1000000) (hs : s.size ≤ 100000) :
    paymasterref07_Rune.l0 (k + 1) s p many n least i = if p + i < s.size ∧ (s.get! (p + i)).toNat / 64 = 2 then paymasterref07_Rune.l0 k s p many (64 * n + ((s.get! (p + i)).toNat : Int) - 128) least ((i + 1 : Nat) : Int) else some (0, 0) := by
  have hb := byte_lt s (p + i)
  have e1 : wrap64 ((p : Int) + (i : Int)) = ((p + i : Nat) : Int) := by rw [w64 (by omega) (by omega)]; push_cast; rfl
  rw [paymasterref07_Rune.l0, if_pos hi, e1, bt_get]
  generalize hB : (s.get! (p + i)).toNat = B at hb
  by_cases c : p + i < s.size
  · rw [if_neg (by omega), if_pos (by omega), if_pos (by omega)]
    by_cases c1 : B < 128
    · rw [if_pos (by omega), if_neg (by omega)]
    · rw [if_neg (by omega)]
      by_cases c2 : B ≥ 192
      · rw [if_pos (by omega), if_neg (by omega)]
      · rw [if_neg (by omega), if_pos ⟨c, by omega⟩, w64 (x := 64 * n) (by omega) (by omega), w64 (x := (B : Int)) (by omega) (by omega), w64 (x := 64 * n + (B : Int)) (by omega) (by omega), w64 (x := 64 * n + (B : Int) - 128) (by omega) (by omega), w64 (x := (i : Int) + 1) (by omega) (by omega)]
        congr 1
  · rw [if_pos (by omega), if_neg (by omega)]
theorem rune_end (s : ByteArray) (p : Int) (many n least : Int) (k : Nat) :
    paymasterref07_Rune.l0 (k + 1) s p many n least many = if n < least ∨ n > 1114111 ∨ (55296 ≤ n ∧ n < 57344) then some (0, 0) else some (n, many) := by
  rw [paymasterref07_Rune.l0, if_neg (by omega)]
  by_cases c1 : n < least
  · rw [if_pos c1, if_pos (.inl c1)]
  · rw [if_neg c1]
    by_cases c2 : n > 1114111
    · rw [if_pos c2, if_pos (.inr (.inl c2))]
    · rw [if_neg c2]
      by_cases c3 : n ≥ 55296
      · rw [if_pos c3]
        by_cases c4 : n < 57344
        · rw [if_pos c4, if_pos (.inr (.inr ⟨c3, c4⟩))]
        · rw [if_neg c4, if_neg (by omega)]
      · rw [if_neg c3, if_neg (by omega)]
theorem rune_is (s : ByteArray) (p k : Nat) (hs : s.size ≤ 1000) (hp : p < s.size) (hk : 20 ≤ k) :
    paymasterref07_Rune.f k s (p : Int) = some (if badAt s p = true then (0, 0) else (((Utf8.decode s p).1 : Int), ((Utf8.decode s p).2 : Int))) := by
  obtain ⟨k, rfl⟩ : ∃ m, k = m + 10 := ⟨k - 10, by omega⟩
  have hb0 := byte_lt s p
  have hb1 := byte_lt s (p + 1)
  have hb2 := byte_lt s (p + 2)
  have hb3 := byte_lt s (p + 3)
  have hd : Utf8.decode s p = Lib.decodeN (s.size - p) (s.get! p).toNat (s.get! (p + 1)).toNat (s.get! (p + 2)).toNat (s.get! (p + 3)).toNat := Lib.decode_at s p
  unfold badAt
  rw [paymasterref07_Rune.f, if_neg (by omega), decide_eq_false (by omega), paymasterref07_Rune.j0, if_neg (by simp), if_pos (by omega), if_pos (by omega), bt_get, w64 (by omega) (by omega), hd]
  have st1 : ∀ (many n least : Int) (k : Nat), (1 : Int) < many → many ≤ 4 → 0 ≤ n → n ≤ 1000000 → paymasterref07_Rune.l0 (k + 1) s p many n least 1 = if p + 1 < s.size ∧ (s.get! (p + 1)).toNat / 64 = 2 then paymasterref07_Rune.l0 k s p many (64 * n + ((s.get! (p + 1)).toNat : Int) - 128) least 2 else some (0, 0) := fun many n least k h1 h2 h3 h4 => rune_step s p 1 many n least k (by omega) h1 h2 h3 h4 (by omega)
  have st2 : ∀ (many n least : Int) (k : Nat), (2 : Int) < many → many ≤ 4 → 0 ≤ n → n ≤ 1000000 → paymasterref07_Rune.l0 (k + 1) s p many n least 2 = if p + 2 < s.size ∧ (s.get! (p + 2)).toNat / 64 = 2 then paymasterref07_Rune.l0 k s p many (64 * n + ((s.get! (p + 2)).toNat : Int) - 128) least 3 else some (0, 0) := fun many n least k h1 h2 h3 h4 => rune_step s p 2 many n least k (by omega) h1 h2 h3 h4 (by omega)
  have st3 : ∀ (many n least : Int) (k : Nat), (3 : Int) < many → many ≤ 4 → 0 ≤ n → n ≤ 1000000 → paymasterref07_Rune.l0 (k + 1) s p many n least 3 = if p + 3 < s.size ∧ (s.get! (p + 3)).toNat / 64 = 2 then paymasterref07_Rune.l0 k s p many (64 * n + ((s.get! (p + 3)).toNat : Int) - 128) least 4 else some (0, 0) := fun many n least k h1 h2 h3 h4 => rune_step s p 3 many n least k (by omega) h1 h2 h3 h4 (by omega)
  generalize (s.get! p).toNat = b0 at hb0
  generalize (s.get! (p + 1)).toNat = b1 at hb1 st1
  generalize (s.get! (p + 2)).toNat = b2 at hb2 st2
  generalize (s.get! (p + 3)).toNat = b3 at hb3 st3
  have bad0 : ∀ q : Nat × Nat, q = (65533, 1) → some ((0 : Int), (0 : Int)) = some (if (q.1 == 65533 && q.2 == 1) = true then ((0 : Int), (0 : Int)) else ((q.1 : Int), (q.2 : Int))) := fun q h => by rw [h]; rfl
  have good0 : ∀ (c w : Nat), ¬ w = 1 ∨ c < 128 → some ((c : Int), (w : Int)) = some (if (((c, w) : Nat × Nat).1 == 65533 && ((c, w) : Nat × Nat).2 == 1) = true then ((0 : Int), (0 : Int)) else ((c : Int), (w : Int))) := fun c w h => by
    have : ¬ ((((c, w) : Nat × Nat).1 == 65533 && ((c, w) : Nat × Nat).2 == 1) = true) := by
      simp only [Bool.and_eq_true, beq_iff_eq]; omega
    rw [if_neg this]
  by_cases c0 : b0 < 128
  · rw [if_pos (by omega)]
    have e : Lib.decodeN (s.size - p) b0 b1 b2 b3 = (b0, 1) := by unfold Lib.decodeN; rw [if_pos c0]
    rw [e]; exact good0 b0 1 (.inr c0)
  · rw [if_neg (by omega)]
    by_cases c1 : b0 < 192
    · rw [if_neg (by omega), paymasterref07_Rune.j1, if_neg (by simp), if_neg (by omega), paymasterref07_Rune.j2, if_neg (by simp), if_neg (by omega)]
      exact bad0 _ (by unfold Lib.decodeN; rw [if_neg c0, if_neg (by omega), if_neg (by omega), if_neg (by omega)])
    · rw [if_pos (by omega), paymasterref07_Rune.j1]
      by_cases c2 : b0 < 224
      · rw [decide_eq_true (by omega), if_pos rfl, paymasterref07_Rune.j3, w64 (by omega) (by omega), st1 2 _ 128 _ (by omega) (by omega) (by omega) (by omega)]
        by_cases d1 : p + 1 < s.size ∧ b1 / 64 = 2
        · rw [if_pos d1, rune_end]
          by_cases e1 : b0 % 32 * 64 + b1 % 64 ≥ 128
          · have e : Lib.decodeN (s.size - p) b0 b1 b2 b3 = (b0 % 32 * 64 + b1 % 64, 2) := by
              unfold Lib.decodeN; rw [if_neg c0, if_pos ⟨by omega, by omega, d1.2⟩, if_pos e1]
            rw [e, if_neg (by omega)]
            refine Eq.trans ?_ (good0 _ 2 (.inl (by decide)))
            congr 2; omega
          · rw [if_pos (by omega)]
            exact bad0 _ (by unfold Lib.decodeN; rw [if_neg c0, if_pos ⟨by omega, by omega, d1.2⟩, if_neg e1])
        · rw [if_neg d1]
          exact bad0 _ (by unfold Lib.decodeN; rw [if_neg c0, if_neg (by omega), if_neg (by omega), if_neg (by omega)])
      · rw [decide_eq_false (by omega), if_neg (by simp), if_pos (by omega), paymasterref07_Rune.j2]
        by_cases c3 : b0 < 240
        · rw [decide_eq_true (by omega), if_pos rfl, paymasterref07_Rune.j3, w64 (by omega) (by omega), st1 3 _ 2048 _ (by omega) (by omega) (by omega) (by omega)]
          by_cases d1 : p + 1 < s.size ∧ b1 / 64 = 2
          · rw [if_pos d1, st2 3 _ 2048 _ (by omega) (by omega) (by omega) (by omega)]
            by_cases d2 : p + 2 < s.size ∧ b2 / 64 = 2
            · rw [if_pos d2, rune_end]
              by_cases e1 : b0 % 16 * 4096 + b1 % 64 * 64 + b2 % 64 ≥ 2048 ∧ (b0 % 16 * 4096 + b1 % 64 * 64 + b2 % 64 < 55296 ∨ (57344 ≤ b0 % 16 * 4096 + b1 % 64 * 64 + b2 % 64 ∧ b0 % 16 * 4096 + b1 % 64 * 64 + b2 % 64 ≤ 1114111))
              · have e : Lib.decodeN (s.size - p) b0 b1 b2 b3 = (b0 % 16 * 4096 + b1 % 64 * 64 + b2 % 64, 3) := by
                  unfold Lib.decodeN; rw [if_neg c0, if_neg (by omega), if_pos ⟨by omega, ⟨by omega, d1.2⟩, by omega, d2.2⟩, if_pos e1]
                rw [e, if_neg (by omega)]
                refine Eq.trans ?_ (good0 _ 3 (.inl (by decide)))
                congr 2; omega
              · rw [if_pos (by omega)]
                exact bad0 _ (by unfold Lib.decodeN; rw [if_neg c0, if_neg (by omega), if_pos ⟨by omega, ⟨by omega, d1.2⟩, by omega, d2.2⟩, if_neg e1])
            · rw [if_neg d2]
              exact bad0 _ (by unfold Lib.decodeN; rw [if_neg c0, if_neg (by omega), if_neg (by omega), if_neg (by omega)])
          · rw [if_neg d1]
            exact bad0 _ (by unfold Lib.decodeN; rw [if_neg c0, if_neg (by omega), if_neg (by omega), if_neg (by omega)])
        · rw [decide_eq_false (by omega), if_neg (by simp), if_pos (by omega)]
          by_cases c4 : b0 < 248
          · rw [if_pos (by omega), paymasterref07_Rune.j3, w64 (by omega) (by omega), st1 4 _ 65536 _ (by omega) (by omega) (by omega) (by omega)]
            by_cases d1 : p + 1 < s.size ∧ b1 / 64 = 2
            · rw [if_pos d1, st2 4 _ 65536 _ (by omega) (by omega) (by omega) (by omega)]
              by_cases d2 : p + 2 < s.size ∧ b2 / 64 = 2
              · rw [if_pos d2, st3 4 _ 65536 _ (by omega) (by omega) (by omega) (by omega)]
                by_cases d3 : p + 3 < s.size ∧ b3 / 64 = 2
                · rw [if_pos d3, rune_end]
                  by_cases e1 : b0 % 8 * 262144 + b1 % 64 * 4096 + b2 % 64 * 64 + b3 % 64 ≥ 65536 ∧ (b0 % 8 * 262144 + b1 % 64 * 4096 + b2 % 64 * 64 + b3 % 64 < 55296 ∨ (57344 ≤ b0 % 8 * 262144 + b1 % 64 * 4096 + b2 % 64 * 64 + b3 % 64 ∧ b0 % 8 * 262144 + b1 % 64 * 4096 + b2 % 64 * 64 + b3 % 64 ≤ 1114111))
                  · have e : Lib.decodeN (s.size - p) b0 b1 b2 b3 = (b0 % 8 * 262144 + b1 % 64 * 4096 + b2 % 64 * 64 + b3 % 64, 4) := by
                      unfold Lib.decodeN; rw [if_neg c0, if_neg (by omega), if_neg (by omega), if_pos ⟨by omega, ⟨by omega, d1.2⟩, ⟨by omega, d2.2⟩, by omega, d3.2⟩, if_pos e1]
                    rw [e, if_neg (by omega)]
                    refine Eq.trans ?_ (good0 _ 4 (.inl (by decide)))
                    congr 2; omega
                  · rw [if_pos (by omega)]
                    exact bad0 _ (by unfold Lib.decodeN; rw [if_neg c0, if_neg (by omega), if_neg (by omega), if_pos ⟨by omega, ⟨by omega, d1.2⟩, ⟨by omega, d2.2⟩, by omega, d3.2⟩, if_neg e1])
                · rw [if_neg d3]
                  exact bad0 _ (by unfold Lib.decodeN; rw [if_neg c0, if_neg (by omega), if_neg (by omega), if_neg (by omega)])
              · rw [if_neg d2]
                exact bad0 _ (by unfold Lib.decodeN; rw [if_neg c0, if_neg (by omega), if_neg (by omega), if_neg (by omega)])
            · rw [if_neg d1]
              exact bad0 _ (by unfold Lib.decodeN; rw [if_neg c0, if_neg (by omega), if_neg (by omega), if_neg (by omega)])
          · rw [if_neg (by omega)]
            exact bad0 _ (by unfold Lib.decodeN; rw [if_neg c0, if_neg (by omega), if_neg (by omega), if_neg (by omega)])

/-! ### Ids -/
/-- May a rune be an Id's? -/
def withinB (c : Nat) : Bool := (97 ≤ c && c ≤ 122) || (65 ≤ c && c ≤ 90) || (48 ≤ c && c ≤ 57) || (c == 46 || c == 95 || c == 45) || 161 ≤ c
theorem rwithin_is (c : Nat) : paymasterref07_within.f (c : Int) = some (withinB c) := by
  unfold paymasterref07_within.f withinB
  repeat' split
  all_goals (congr 1; rw [Bool.eq_iff_iff]; simp; omega)
def allW (s : ByteArray) : Nat → Nat → Bool
  | 0, _ => true
  | f + 1, p => if p < s.size then withinB (Utf8.decode s p).1 && allW s f (p + (Utf8.decode s p).2) else true
def mayIdB (s : ByteArray) : Bool := (1 ≤ Lib.runeCount s && Lib.runeCount s ≤ 24) && Lib.validD s.data.toList && allW s s.size 0
theorem valid_at (s : ByteArray) (p : Nat) (hp : p < s.size) : Lib.validD (s.data.toList.drop p) = if badAt s p = true then false else Lib.validD (s.data.toList.drop (p + (Utf8.decode s p).2)) := by
  have hne : s.data.toList.drop p ≠ [] := by
    intro h0
    have := congrArg List.length h0
    rw [List.length_drop, ← Lib.size_eq] at this
    simp at this; omega
  rw [Lib.validD_step _ hne, Lib.decodeL_drop, List.drop_drop]
  unfold badAt
  simp only [Bool.and_eq_true, beq_iff_eq]
theorem decode_small (s : ByteArray) (p : Nat) : (Utf8.decode s p).2 ≤ 4 := by
  rw [show Utf8.decode s p = _ from Lib.decode_at s p]
  unfold Lib.decodeN
  repeat' split
  all_goals simp
theorem count_step (s : ByteArray) (f p : Nat) (hp : p < s.size) : Lib.runeCountFrom s (f + 1) p = 1 + Lib.runeCountFrom s f (p + (Utf8.decode s p).2) := by
  rw [Lib.runeCountFrom, if_pos hp]
/-- What is left of the reference's loop. -/
theorem rmay_from (s : ByteArray) (hs : s.size ≤ 1000) : ∀ (f k p n : Nat), s.size ≤ p + f → p ≤ s.size + 4 → n ≤ p → f + 30 ≤ k →
    paymasterref07_MayId.l0 k s (n : Int) (p : Int) = some (Lib.validD (s.data.toList.drop p) && allW s f p && (1 ≤ n + Lib.runeCountFrom s f p && n + Lib.runeCountFrom s f p ≤ 24)) := by
  intro f
  induction f with
  | zero =>
    intro k p n h hp hn hk
    obtain ⟨k, rfl⟩ : ∃ m, k = m + 1 := ⟨k - 1, by omega⟩
    have hd : s.data.toList.drop p = [] := List.drop_eq_nil_of_le (by rw [← Lib.size_eq]; omega)
    rw [paymasterref07_MayId.l0, if_neg (by omega), hd, Lib.validD_nil, allW, Lib.runeCountFrom, Nat.add_zero]
    by_cases c : 1 ≤ n
    · rw [if_pos (by omega)]; congr 1; simp [c]; omega
    · rw [if_neg (by omega)]; congr 1; simp [c]
  | succ f ih =>
    intro k p n h hp hn hk
    obtain ⟨k, rfl⟩ : ∃ m, k = m + 1 := ⟨k - 1, by omega⟩
    by_cases c : p < s.size
    · have hw := Lib.decode_width_pos s p c
      have hw4 := decode_small s p
      rw [paymasterref07_MayId.l0, if_pos (by omega), rune_is s p k hs c (by omega), valid_at s p c, allW, if_pos c, count_step s f p c]
      simp only [Option.bind_some]
      by_cases b : badAt s p = true
      · rw [if_pos b, if_pos b]; simp
      · rw [if_neg b, if_neg b]
        rw [if_neg (by simp only; omega), rwithin_is]
        simp only [Option.bind_some]
        by_cases wi : withinB (Utf8.decode s p).1 = true
        · rw [if_pos wi, wi, w64 (by omega) (by omega), w64 (by omega) (by omega)]
          have := ih k (p + (Utf8.decode s p).2) (n + 1) (by omega) (by omega) (by omega) (by omega)
          rw [show ((n : Int) + 1) = ((n + 1 : Nat) : Int) by push_cast; rfl, show ((p : Int) + ((Utf8.decode s p).2 : Int)) = ((p + (Utf8.decode s p).2 : Nat) : Int) by push_cast; rfl, this]
          rw [Nat.add_assoc, Bool.true_and]
        · rw [if_neg wi]; simp [wi]
    · have hd : s.data.toList.drop p = [] := List.drop_eq_nil_of_le (by rw [← Lib.size_eq]; omega)
      rw [paymasterref07_MayId.l0, if_neg (by omega), hd, Lib.validD_nil, allW, if_neg c, Lib.runeCountFrom, if_neg c, Nat.add_zero]
      by_cases c : 1 ≤ n
      · rw [if_pos (by omega)]; congr 1; simp [c]; omega
      · rw [if_neg (by omega)]; congr 1; simp [c]
theorem rmayId_is (s : ByteArray) (k : Nat) (hs : s.size ≤ 1000) (hk : 1100 ≤ k) : paymasterref07_MayId.f k s = some (mayIdB s) := by
  have := rmay_from s hs s.size k 0 0 (by omega) (by omega) (by omega) (by omega)
  rw [Int.natCast_zero, List.drop_zero, Nat.zero_add] at this
  rw [paymasterref07_MayId.f, this]
  unfold mayIdB Lib.runeCount
  congr 1
  simp only [Bool.and_comm, Bool.and_assoc]
end Go.Proofs.YtfijhbfdkcajjaaGreatDoor.Pr
