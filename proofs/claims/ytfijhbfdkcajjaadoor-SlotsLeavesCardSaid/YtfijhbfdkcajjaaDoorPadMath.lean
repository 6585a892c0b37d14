/- Plain: the reference's pad is the program's. -/
import Derived.Test.YtfijhbfdkcajjaaDoorPrx23
import Derived.Test.YtfijhbfdkcajjaaDoorPPad
import Derived.Test.YtfijhbfdkcajjaaDoorRBlock
import Derived.Test.YtfijhbfdkcajjaaDoorRSum
namespace Go.Proofs.YtfijhbfdkcajjaaDoor.Pr
open Go.RowKit Go.Proofs.YtfijhbfdkcajjaaDoorW.PrintWords Go.Proofs.YtfijhbfdkcajjaaDoorW.PrintLast Go.Proofs.YtfijhbfdkcajjaaDoorW.PrintMore
set_option linter.unusedVariables false
set_option linter.unusedSimpArgs false
open Sh
theorem nat_tmod (a b : Nat) : Int.tmod (a : Int) (b : Int) = ((a % b : Nat) : Int) := by rw [Int.tmod_eq_emod_of_nonneg (Int.natCast_nonneg _)]; omega
theorem nat_tdiv (a b : Nat) : Int.tdiv (a : Int) (b : Int) = ((a / b : Nat) : Int) := by rw [Int.tdiv_eq_ediv_of_nonneg (Int.natCast_nonneg _)]; omega
theorem wrap64_s (j : Nat) (h : j ≤ 1000000) : wrap64 ((j : Int) + 1) = ((j + 1 : Nat) : Int) := by unfold wrap64; omega
theorem rd_l0 (k j lo : Nat) (x3 : List Int) (hi : Int) (hj : j < 4) (hl : x3.length ≤ 100) (h : lo < 18446744073709551616) :
    paymasterref01_digits.l0 (k + 1) x3 (j : Int) hi (lo : Int) = paymasterref01_digits.l0 k (x3 ++ [((lo % 65536 : Nat) : Int)]) ((j + 1 : Nat) : Int) hi ((lo / 65536 : Nat) : Int) := by
  have h4 : (j : Int) < 4 := by omega
  rw [paymasterref01_digits.l0, if_pos h4, if_pos (by omega), wrap64_s j (by omega), show (65536 : Int) = ((65536 : Nat) : Int) from rfl, nat_tmod, nat_tdiv, IntWalk.u64_in _ (by omega)]
theorem rd_l0e (k : Nat) (x3 : List Int) (hi lo : Int) : paymasterref01_digits.l0 (k + 1) x3 ((4 : Nat) : Int) hi lo = paymasterref01_digits.l1 k x3 0 hi lo := by
  rw [paymasterref01_digits.l0, if_neg (by omega)]
theorem rd_l1 (k j hi : Nat) (x3 : List Int) (lo : Int) (hj : j < 4) (hl : x3.length ≤ 100) (h : hi < 18446744073709551616) :
    paymasterref01_digits.l1 (k + 1) x3 (j : Int) (hi : Int) lo = paymasterref01_digits.l1 k (x3 ++ [((hi % 65536 : Nat) : Int)]) ((j + 1 : Nat) : Int) ((hi / 65536 : Nat) : Int) lo := by
  have h4 : (j : Int) < 4 := by omega
  rw [paymasterref01_digits.l1, if_pos h4, if_pos (by omega), wrap64_s j (by omega), show (65536 : Int) = ((65536 : Nat) : Int) from rfl, nat_tmod, nat_tdiv, IntWalk.u64_in _ (by omega)]
theorem rd_l1e (k : Nat) (x3 : List Int) (hi lo : Int) : paymasterref01_digits.l1 (k + 1) x3 ((4 : Nat) : Int) hi lo = some x3 := by
  rw [paymasterref01_digits.l1, if_neg (by omega)]
def d16 (n : Nat) : Nat → Nat
  | 0 => n
  | j + 1 => d16 n j / 65536
theorem d16_le (n : Nat) : ∀ j, d16 n j ≤ n
  | 0 => Nat.le_refl _
  | j + 1 => Nat.le_trans (Nat.div_le_self _ _) (d16_le n j)
def digL (n : Nat) : List Int := [((d16 n 0 % 65536 : Nat) : Int), ((d16 n 1 % 65536 : Nat) : Int), ((d16 n 2 % 65536 : Nat) : Int), ((d16 n 3 % 65536 : Nat) : Int)]
theorem rdigits (hi lo q : Nat) (h1 : hi < 18446744073709551616) (h2 : lo < 18446744073709551616) : paymasterref01_digits.f (q + 10) (hi : Int) (lo : Int) = some (digL lo ++ digL hi) := by
  unfold paymasterref01_digits.f
  have g1 := d16_le lo 1
  have g2 := d16_le lo 2
  have g3 := d16_le lo 3
  have f1 := d16_le hi 1
  have f2 := d16_le hi 2
  have f3 := d16_le hi 3
  have s0 := rd_l0 (q + 9) 0 lo [] hi (by decide) (by decide) h2
  have s1 := rd_l0 (q + 8) 1 (d16 lo 1) ([] ++ [((lo % 65536 : Nat) : Int)]) hi (by decide) (by simp) (by omega)
  have s2 := rd_l0 (q + 7) 2 (d16 lo 2) ([] ++ [((lo % 65536 : Nat) : Int)] ++ [((d16 lo 1 % 65536 : Nat) : Int)]) hi (by decide) (by simp) (by omega)
  have s3 := rd_l0 (q + 6) 3 (d16 lo 3) ([] ++ [((lo % 65536 : Nat) : Int)] ++ [((d16 lo 1 % 65536 : Nat) : Int)] ++ [((d16 lo 2 % 65536 : Nat) : Int)]) hi (by decide) (by simp) (by omega)
  have s4 := rd_l0e (q + 5) (digL lo) hi ((d16 lo 4 : Nat) : Int)
  have t0 := rd_l1 (q + 4) 0 hi (digL lo) ((d16 lo 4 : Nat) : Int) (by decide) (by simp [digL]) h1
  have t1 := rd_l1 (q + 3) 1 (d16 hi 1) (digL lo ++ [((hi % 65536 : Nat) : Int)]) ((d16 lo 4 : Nat) : Int) (by decide) (by simp [digL]) (by omega)
  have t2 := rd_l1 (q + 2) 2 (d16 hi 2) (digL lo ++ [((hi % 65536 : Nat) : Int)] ++ [((d16 hi 1 % 65536 : Nat) : Int)]) ((d16 lo 4 : Nat) : Int) (by decide) (by simp [digL]) (by omega)
  have t3 := rd_l1 (q + 1) 3 (d16 hi 3) (digL lo ++ [((hi % 65536 : Nat) : Int)] ++ [((d16 hi 1 % 65536 : Nat) : Int)] ++ [((d16 hi 2 % 65536 : Nat) : Int)]) ((d16 lo 4 : Nat) : Int) (by decide) (by simp [digL]) (by omega)
  have t4 := rd_l1e q (digL lo ++ digL hi) ((d16 hi 4 : Nat) : Int) ((d16 lo 4 : Nat) : Int)
  refine s0.trans (s1.trans (s2.trans (s3.trans (s4.trans (t0.trans (t1.trans (t2.trans ?_)))))))
  refine t3.trans (Eq.trans ?_ t4)
  congr 1
theorem rb_step (k j d : Nat) (ds x4 : List Int) (hj : j < ds.length) (hj2 : j ≤ 100) (hd : ds.getD j 0 = (d : Int)) (h : d < 65536) (hl : x4.length ≤ 100) :
    paymasterref01_Bytes.l0 (k + 1) ds x4 (j : Int) = paymasterref01_Bytes.l0 k ds (x4 ++ [((d / 256 : Nat) : Int), ((d % 256 : Nat) : Int)]) ((j : Int) - 1) := by
  have e : rd ds (j : Int) = (d : Int) := by rw [← hd]; rfl
  have e1 : IntKind.u64.wrap (Int.tdiv (d : Int) 256) % 256 = ((d / 256 : Nat) : Int) := by
    rw [show (256 : Int) = ((256 : Nat) : Int) from rfl, nat_tdiv, IntWalk.u64_in _ (by omega)]; omega
  have e2 : Int.tmod (d : Int) 256 % 256 = ((d % 256 : Nat) : Int) := by
    rw [show (256 : Int) = ((256 : Nat) : Int) from rfl, nat_tmod]; omega
  have e3 : wrap64 ((j : Int) - 1) = (j : Int) - 1 := by unfold wrap64; omega
  rw [paymasterref01_Bytes.l0, if_pos (by omega), if_pos (by omega), if_pos (by omega), Option.bind_some, if_pos (by simp; omega), e, e1, e2, e3]
theorem rb_end (k : Nat) (ds x4 : List Int) : paymasterref01_Bytes.l0 (k + 1) ds x4 (-1) = some (strOfNums x4) := by
  rw [paymasterref01_Bytes.l0, if_neg (by omega)]
def two (n j : Nat) : List Int := [((d16 n j % 65536 / 256 : Nat) : Int), ((d16 n j % 65536 % 256 : Nat) : Int)]
theorem rbytes (hi lo q : Nat) (h1 : hi < 18446744073709551616) (h2 : lo < 18446744073709551616) : paymasterref01_Bytes.f (q + 10) (hi : Int) (lo : Int) = some (strOfNums (two hi 3 ++ two hi 2 ++ two hi 1 ++ two hi 0 ++ two lo 3 ++ two lo 2 ++ two lo 1 ++ two lo 0)) := by
  unfold paymasterref01_Bytes.f
  rw [rdigits hi lo q h1 h2, Option.bind_some]
  have hl : ∀ n j, (two n j).length = 2 := fun _ _ => rfl
  have st : ∀ (k j d : Nat) (x4 : List Int), j < 8 → (digL lo ++ digL hi).getD j 0 = ((d % 65536 : Nat) : Int) → x4.length ≤ 100 → paymasterref01_Bytes.l0 (k + 1) (digL lo ++ digL hi) x4 (j : Int) = paymasterref01_Bytes.l0 k (digL lo ++ digL hi) (x4 ++ [((d % 65536 / 256 : Nat) : Int), ((d % 65536 % 256 : Nat) : Int)]) ((j : Int) - 1) := fun k j d x4 hj hd hl => rb_step k j (d % 65536) _ x4 (by simp [digL]; omega) (by omega) hd (Nat.mod_lt _ (by decide)) hl
  have a7 := st (q + 9) 7 (d16 hi 3) [] (by decide) rfl (by simp)
  have a6 := st (q + 8) 6 (d16 hi 2) (two hi 3) (by decide) rfl (by simp [hl])
  have a5 := st (q + 7) 5 (d16 hi 1) (two hi 3 ++ two hi 2) (by decide) rfl (by simp [hl])
  have a4 := st (q + 6) 4 (d16 hi 0) (two hi 3 ++ two hi 2 ++ two hi 1) (by decide) rfl (by simp [hl])
  have a3 := st (q + 5) 3 (d16 lo 3) (two hi 3 ++ two hi 2 ++ two hi 1 ++ two hi 0) (by decide) rfl (by simp [hl])
  have a2 := st (q + 4) 2 (d16 lo 2) (two hi 3 ++ two hi 2 ++ two hi 1 ++ two hi 0 ++ two lo 3) (by decide) rfl (by simp [hl])
  have a1 := st (q + 3) 1 (d16 lo 1) (two hi 3 ++ two hi 2 ++ two hi 1 ++ two hi 0 ++ two lo 3 ++ two lo 2) (by decide) rfl (by simp [hl])
  have a0 := st (q + 2) 0 (d16 lo 0) (two hi 3 ++ two hi 2 ++ two hi 1 ++ two hi 0 ++ two lo 3 ++ two lo 2 ++ two lo 1) (by decide) rfl (by simp [hl])
  exact a7.trans (a6.trans (a5.trans (a4.trans (a3.trans (a2.trans (a1.trans (a0.trans (rb_end (q + 1) _ _))))))))
theorem ofNat_eq {a b : Nat} (h : a % 256 = b % 256) : UInt8.ofNat a = UInt8.ofNat b := by
  apply UInt8.toNat_inj.1
  simpa using h
theorem two_bytes (n : Nat) : (two n 3 ++ two n 2 ++ two n 1 ++ two n 0).map (fun x => UInt8.ofNat x.toNat) = eightL n := by
  simp only [two, d16, eightL, byteAt, List.cons_append, List.nil_append, List.map_cons, List.map_nil, Int.toNat_natCast]
  rw [ofNat_eq (a := n / 65536 / 65536 / 65536 % 65536 / 256) (b := n / 2 ^ 56) (by omega), ofNat_eq (a := n / 65536 / 65536 / 65536 % 65536 % 256) (b := n / 2 ^ 48) (by omega),
    ofNat_eq (a := n / 65536 / 65536 % 65536 / 256) (b := n / 2 ^ 40) (by omega), ofNat_eq (a := n / 65536 / 65536 % 65536 % 256) (b := n / 2 ^ 32) (by omega),
    ofNat_eq (a := n / 65536 % 65536 / 256) (b := n / 2 ^ 24) (by omega), ofNat_eq (a := n / 65536 % 65536 % 256) (b := n / 2 ^ 16) (by omega),
    ofNat_eq (a := n % 65536 / 256) (b := n / 2 ^ 8) (by omega), ofNat_eq (a := n % 65536 % 256) (b := n / 2 ^ 0) (by omega)]
theorem rbytes_is (hi lo q : Nat) (h1 : hi < 18446744073709551616) (h2 : lo < 18446744073709551616) : paymasterref01_Bytes.f (q + 10) (hi : Int) (lo : Int) = some ⟨(eightL hi ++ eightL lo).toArray⟩ := by
  rw [rbytes hi lo q h1 h2]
  unfold strOfNums
  rw [show two hi 3 ++ two hi 2 ++ two hi 1 ++ two hi 0 ++ two lo 3 ++ two lo 2 ++ two lo 1 ++ two lo 0 = (two hi 3 ++ two hi 2 ++ two hi 1 ++ two hi 0) ++ (two lo 3 ++ two lo 2 ++ two lo 1 ++ two lo 0) from by simp only [List.append_assoc], List.map_append, two_bytes, two_bytes]
/-! ### with -/
theorem bitwise_lt (x c : Nat) : ∀ k, bitwise x c k < 2 ^ k
  | 0 => by rw [bitwise]; decide
  | k + 1 => by
    have := bitwise_lt x c k
    rw [bitwise, Nat.pow_succ]
    split <;> omega
theorem with_l1 (s : ByteArray) (c : Nat) (hc : c < 256) (out : List Int) (ho : out.length ≤ 100000) (i m : Nat) (hi : i < s.size) (hi2 : i ≤ 100000) (d : Nat) : ∀ j, j + d = 8 →
    paymasterref06_with.l1 (m + d + 1) s (c : Int) out (i : Int) ((bitwise (s[i]).toNat c j : Nat) : Int) ((2 ^ j % 256 : Nat) : Int) (j : Int) = paymasterref06_with.l0 m s (c : Int) (out ++ [((bitwise (s[i]).toNat c 8 : Nat) : Int)]) ((i + 1 : Nat) : Int) := by
  induction d with
  | zero =>
    intro j hj
    obtain rfl : j = 8 := by omega
    rw [paymasterref06_with.l1, if_neg (by omega), if_pos (by omega), wrap64_s i (by omega)]
  | succ d ih =>
    intro j hj
    have hj8 : j < 8 := by omega
    have hp : 2 ^ j ≤ 128 ∧ 1 ≤ 2 ^ j := by
      match j, hj8 with
      | 0, _ => decide
      | 1, _ => decide
      | 2, _ => decide
      | 3, _ => decide
      | 4, _ => decide
      | 5, _ => decide
      | 6, _ => decide
      | 7, _ => decide
    have h := ih (j + 1) (by omega)
    have hb : bt s (i : Int) = ((s[i]).toNat : Int) := (Sh.bt_at s i hi).symm
    have hx : (s[i]).toNat < 256 := (s[i]).toNat_lt
    have hlt := bitwise_lt (s[i]).toNat c j
    have hps : 2 ^ (j + 1) = 2 * 2 ^ j := by rw [Nat.pow_succ]; omega
    rw [show m + (d + 1) + 1 = (m + d + 1) + 1 by omega, paymasterref06_with.l1, if_pos (by omega), if_pos (by omega), if_pos (by omega), hb]
    rw [bitwise, hps] at h
    generalize (s[i]).toNat = x at hx hlt h ⊢
    rw [show 2 ^ j % 256 = 2 ^ j by omega] at ⊢
    generalize bitwise x c 8 = B8 at h ⊢
    generalize bitwise x c j = B at hlt h ⊢
    generalize 2 ^ j = P at hp hlt h ⊢
    have hdx : x / P ≤ x := Nat.div_le_self _ _
    have hdc : c / P ≤ c := Nat.div_le_self _ _
    rw [if_neg (by omega), nat_tdiv, nat_tdiv, wrap64_s j (by omega)]
    generalize hX : x / P = X at hdx h ⊢
    generalize hC : c / P = C at hdc h ⊢
    have e1 : ((P : Int) * 2) % 256 = ((2 * P % 256 : Nat) : Int) := by omega
    rw [e1]
    by_cases cc : X % 2 = C % 2
    · rw [if_pos cc] at h
      rw [if_pos (by omega)]
      exact h
    · rw [if_neg cc] at h
      have e2 : ((B : Int) + (P : Int)) % 256 = ((B + P : Nat) : Int) := by omega
      rw [if_neg (by omega), e2]
      exact h
theorem with_l0 (s : ByteArray) (c : UInt8) (hc : c = 92 ∨ c = 54) (hs : s.size ≤ 100000) (d : Nat) : ∀ (i k : Nat), i + d = s.size → 10 * d + 1 ≤ k →
    paymasterref06_with.l0 k s (c.toNat : Int) ((s.data.toList.take i).map fun b => (((b ^^^ c).toNat : Nat) : Int)) (i : Int) = some (xorB c s) := by
  have hlen : s.data.toList.length = s.size := rfl
  induction d with
  | zero =>
    intro i k hi hk
    obtain ⟨k, rfl⟩ : ∃ q, k = q + 1 := ⟨k - 1, by omega⟩
    obtain rfl : i = s.size := by omega
    rw [paymasterref06_with.l0, if_neg (by omega), List.take_of_length_le (by omega)]
    unfold strOfNums xorB xorL
    rw [List.map_map]
    congr 3
    apply List.map_congr_left
    intro b _
    simp
  | succ d ih =>
    intro i k hi hk
    obtain ⟨k, rfl⟩ : ∃ q, k = q + 8 + 1 + 1 := ⟨k - 10, by omega⟩
    have hlt : i < s.size := by omega
    have hci : c.toNat < 256 := c.toNat_lt
    rw [paymasterref06_with.l0, if_pos (by omega)]
    have h1 := with_l1 s c.toNat hci ((s.data.toList.take i).map fun b => (((b ^^^ c).toNat : Nat) : Int)) (by rw [List.length_map, List.length_take]; omega) i k hlt (by omega) 8 0 (by omega)
    refine h1.trans ?_
    have e : (s.data.toList.take (i + 1)).map (fun b => (((b ^^^ c).toNat : Nat) : Int)) = (s.data.toList.take i).map (fun b => (((b ^^^ c).toNat : Nat) : Int)) ++ [((bitwise (s[i]).toNat c.toNat 8 : Nat) : Int)] := by
      rw [List.take_succ_eq_append_getElem (by omega), List.map_append, bitwise_is _ _ hc]
      rfl
    rw [← e]
    exact ih (i + 1) k (by omega) (by omega)
theorem rwith (s : ByteArray) (c : UInt8) (hc : c = 92 ∨ c = 54) (hs : s.size ≤ 100000) (k : Nat) (hk : 10 * s.size + 1 ≤ k) : paymasterref06_with.f k s (c.toNat : Int) = some (xorB c s) :=
  with_l0 s c hc hs s.size 0 k (by omega) hk
theorem rsum (key t : ByteArray) (hk : key.size ≤ 1000000) (ht : t.size ≤ 1000000) (k : Nat) (h : 1000 ≤ k) : paymasterref06_Sum.f k key t = some (macOf key t) := by
  unfold paymasterref06_Sum.f paymasterref06_Block.f
  have hb := blockOf_size key
  rw [if_pos (by omega), Option.bind_some]
  have w1 := rwith (blockOf key) 92 (.inl rfl) (by omega) k (by omega)
  have w2 := rwith (blockOf key) 54 (.inr rfl) (by omega) k (by omega)
  have e92 : (((92 : UInt8).toNat : Nat) : Int) = 92 := rfl
  have e54 : (((54 : UInt8).toNat : Nat) : Int) = 54 := rfl
  rw [e92] at w1
  rw [e54] at w2
  have z1 := xorB_size 92 (blockOf key)
  have z2 := xorB_size 54 (blockOf key)
  have z3 := shaSum_size (xorB 54 (blockOf key) ++ t)
  rw [w1, Option.bind_some, w2, Option.bind_some, if_pos (by omega)]
  unfold paymasterref05_Sum.f
  rw [if_pos (by rw [ByteArray.size_append]; omega), Option.bind_some, if_pos (by omega), if_pos (by rw [ByteArray.size_append]; omega), Option.bind_some, ← macOf_sums]
theorem rfirst (key t : ByteArray) (hk : key.size ≤ 1000000) (ht : t.size ≤ 1000000) (k : Nat) (h : 1000 ≤ k) : paymasterref06_First.f k key t 16 = some ((macOf key t).extract 0 16) := by
  unfold paymasterref06_First.f
  have hz := macOf_size key t
  rw [rsum key t hk ht k h, Option.bind_some, if_neg (by decide), if_neg (by decide), if_pos (by decide), if_pos (by omega)]
  rfl
theorem rpad (seed : ByteArray) (hk : seed.size ≤ 1000000) (n : Nat) (hn : n < 18446744073709551616) (k : Nat) (h : 1000 ≤ k) : paymasterref07_Pad.f k seed (n : Int) = tag_Pad.f seed (n : Int) := by
  obtain ⟨q, rfl⟩ : ∃ q, k = q + 10 := ⟨k - 10, by omega⟩
  unfold paymasterref07_Pad.f paymasterref07_PadSalt.f tag_Pad.f
  have hb := rbytes_is 0 n q (by decide) hn
  rw [show (((0 : Nat) : Int)) = 0 from rfl] at hb
  have hz : (⟨(eightL 0 ++ eightL n).toArray⟩ : ByteArray).size = 16 := rfl
  have he : (⟨(eightL 0 ++ eightL n).toArray⟩ : ByteArray).extract 8 (⟨(eightL 0 ++ eightL n).toArray⟩ : ByteArray).size = eightS n := rfl
  have h8 := eightS_size n
  rw [hb, Option.bind_some, if_pos (by rw [hz]; decide), he, if_pos (by omega), rfirst seed _ hk (by rw [ByteArray.size_append, h8]; decide) _ h, Option.bind_some, Option.bind_some, if_pos ⟨by omega, by omega, by omega⟩, Int.toNat_natCast]
  rfl
end Go.Proofs.YtfijhbfdkcajjaaDoor.Pr
