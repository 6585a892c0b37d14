/- The library's calls of draw.whole, by their contracts: slices.ContainsFunc, slices.Clone, slices.SortFunc at spans. -/
import Derived.Test.YtaeaacdjiijooaaShelf
import Derived.Test.YtaeaacdjiijooaaPrx0
import Derived.Test.YtaeaacdjiijooaaPrx14
import Derived.Test.YtaeaacdjiijooaaPrx22
import Derived.Test.YtaeaacdjiijooaaPrx24
import Derived.Sort.AssemblyPlain
import Derived.Deep.LoopGhost
namespace Go.Proofs.Ytaeaacdjiijooaa.Pr
open Go.RowKit Go.Proofs.YtaeaacdjiijooaaW.PrintWords Go.Proofs.YtaeaacdjiijooaaW.PrintLast Go.Proofs.YtaeaacdjiijooaaW.PrintMore
set_option linter.unusedVariables false
set_option linter.unusedSimpArgs false

attribute [local go_sem] max2_int min2_int max_two min_two max_three min_three max_four min_four   -- for this text's walks alone
/-! ### cmp_Compare_uint64: function 47 -/
def cmp_Compare_uint64.f (a0 : Int) (a1 : Int) : Option (Int) := (cmp_isNaN_uint64.f a0).bind fun t114 => ((cmp_isNaN_uint64.f a1).bind fun t115 => (if t114 = true then (if t115 = true then (some 0) else (some (-1))) else (if t115 = true then (some 1) else (if a0 < a1 then (some (-1)) else (if a0 > a1 then (some 1) else (some 0))))))
set_option maxHeartbeats 8000000 in
set_option maxRecDepth 100000 in
theorem cmp_Compare_uint64.calls (a0 : Int) (a1 : Int) (r : Int) (w : World) (h : cmp_Compare_uint64.f a0 a1 = some r) :
    Calls Try.prog 47 #[.int .u64 a0, .int .u64 a1] w fun e w' => e = .returned (.int .i64 r) ∧ Drawn0 w w' := by
  have H : ((cmp_isNaN_uint64.f a0).bind fun t114 => ((cmp_isNaN_uint64.f a1).bind fun t115 => (if t114 = true then (if t115 = true then (some 0) else (some (-1))) else (if t115 = true then (some 1) else (if a0 < a1 then (some (-1)) else (if a0 > a1 then (some 1) else (some 0))))))) = some r := h
  clear h
  replace H := Option.bind_eq_some_iff.mp H
  obtain ⟨t114, A30, H⟩ := H
  replace H : ((cmp_isNaN_uint64.f a1).bind fun t115 => (if t114 = true then (if t115 = true then (some 0) else (some (-1))) else (if t115 = true then (some 1) else (if a0 < a1 then (some (-1)) else (if a0 > a1 then (some 1) else (some 0)))))) = some r := H
  have A3 := Aside0.mk A30
  clear A30
  replace H := Option.bind_eq_some_iff.mp H
  obtain ⟨t115, A40, H⟩ := H
  replace H : (if t114 = true then (if t115 = true then (some 0) else (some (-1))) else (if t115 = true then (some 1) else (if a0 < a1 then (some (-1)) else (if a0 > a1 then (some 1) else (some 0))))) = some r := H
  have A4 := Aside0.mk A40
  clear A40
  by_cases c5 : t114 = true
  · subst c5
    have H1 : (if t115 = true then (some 0) else (some (-1))) = some r := by rw [if_pos rfl] at H; exact H
    clear H
    have H := H1
    clear H1
    by_cases c6 : t115 = true
    · subst c6
      have H1 : (some 0) = some r := by rw [if_pos rfl] at H; exact H
      clear H
      have H := H1
      clear H1
      obtain rfl := Option.some.inj H
      go_enter Try.func47, Try.ntmps47
      go_wp2_with (first | ((with_reducible refine gate_callee (f := 53) rfl ?_); refine goesL_ (some 8) rfl rfl Try.func53 (by kernel_rfl) rfl #[.int .u64 a0] rfl (by (try simp only [List.map_toArray, List.map_cons, List.map_nil]); first | done | rfl | (simp only [List.length_drop, List.length_take]; rfl)) ?_; (with_reducible refine (cmp_isNaN_uint64.calls a0 true _ A3.out).mono ?_); rintro e w' ⟨rfl, ⟨nd, rfl⟩⟩; refine ⟨_, rfl, ?_⟩) | ((with_reducible refine gate_callee (f := 53) rfl ?_); refine goesL_ (some 10) rfl rfl Try.func53 (by kernel_rfl) rfl #[.int .u64 a1] rfl (by (try simp only [List.map_toArray, List.map_cons, List.map_nil]); first | done | rfl | (simp only [List.length_drop, List.length_take]; rfl)) ?_; (with_reducible refine (cmp_isNaN_uint64.calls a1 true _ A4.out).mono ?_); rintro e w' ⟨rfl, ⟨nd, rfl⟩⟩; refine ⟨_, rfl, ?_⟩))
      go_ret
      exact ⟨by first | rfl | (simp; done) | (simp [*]; done), by repeat (first | exact Drawn0.refl _ | apply Drawn0.step)⟩
    · replace c6 := Bool.eq_false_iff.mpr c6
      subst c6
      have H1 : (some (-1)) = some r := by rw [if_neg (show ¬ (false = true) by decide)] at H; exact H
      clear H
      have H := H1
      clear H1
      obtain rfl := Option.some.inj H
      go_enter Try.func47, Try.ntmps47
      go_wp2_with (first | ((with_reducible refine gate_callee (f := 53) rfl ?_); refine goesL_ (some 8) rfl rfl Try.func53 (by kernel_rfl) rfl #[.int .u64 a0] rfl (by (try simp only [List.map_toArray, List.map_cons, List.map_nil]); first | done | rfl | (simp only [List.length_drop, List.length_take]; rfl)) ?_; (with_reducible refine (cmp_isNaN_uint64.calls a0 true _ A3.out).mono ?_); rintro e w' ⟨rfl, ⟨nd, rfl⟩⟩; refine ⟨_, rfl, ?_⟩) | ((with_reducible refine gate_callee (f := 53) rfl ?_); refine goesL_ (some 10) rfl rfl Try.func53 (by kernel_rfl) rfl #[.int .u64 a1] rfl (by (try simp only [List.map_toArray, List.map_cons, List.map_nil]); first | done | rfl | (simp only [List.length_drop, List.length_take]; rfl)) ?_; (with_reducible refine (cmp_isNaN_uint64.calls a1 false _ A4.out).mono ?_); rintro e w' ⟨rfl, ⟨nd, rfl⟩⟩; refine ⟨_, rfl, ?_⟩))
      go_ret
      exact ⟨by first | rfl | (simp; done) | (simp [*]; done), by repeat (first | exact Drawn0.refl _ | apply Drawn0.step)⟩
  · replace c5 := Bool.eq_false_iff.mpr c5
    subst c5
    have H1 : (if t115 = true then (some 1) else (if a0 < a1 then (some (-1)) else (if a0 > a1 then (some 1) else (some 0)))) = some r := by rw [if_neg (show ¬ (false = true) by decide)] at H; exact H
    clear H
    have H := H1
    clear H1
    by_cases c7 : t115 = true
    · subst c7
      have H1 : (some 1) = some r := by rw [if_pos rfl] at H; exact H
      clear H
      have H := H1
      clear H1
      obtain rfl := Option.some.inj H
      go_enter Try.func47, Try.ntmps47
      go_wp2_with (first | ((with_reducible refine gate_callee (f := 53) rfl ?_); refine goesL_ (some 8) rfl rfl Try.func53 (by kernel_rfl) rfl #[.int .u64 a0] rfl (by (try simp only [List.map_toArray, List.map_cons, List.map_nil]); first | done | rfl | (simp only [List.length_drop, List.length_take]; rfl)) ?_; (with_reducible refine (cmp_isNaN_uint64.calls a0 false _ A3.out).mono ?_); rintro e w' ⟨rfl, ⟨nd, rfl⟩⟩; refine ⟨_, rfl, ?_⟩) | ((with_reducible refine gate_callee (f := 53) rfl ?_); refine goesL_ (some 10) rfl rfl Try.func53 (by kernel_rfl) rfl #[.int .u64 a1] rfl (by (try simp only [List.map_toArray, List.map_cons, List.map_nil]); first | done | rfl | (simp only [List.length_drop, List.length_take]; rfl)) ?_; (with_reducible refine (cmp_isNaN_uint64.calls a1 true _ A4.out).mono ?_); rintro e w' ⟨rfl, ⟨nd, rfl⟩⟩; refine ⟨_, rfl, ?_⟩))
      go_ret
      exact ⟨by first | rfl | (simp; done) | (simp [*]; done), by repeat (first | exact Drawn0.refl _ | apply Drawn0.step)⟩
    · replace c7 := Bool.eq_false_iff.mpr c7
      subst c7
      have H1 : (if a0 < a1 then (some (-1)) else (if a0 > a1 then (some 1) else (some 0))) = some r := by rw [if_neg (show ¬ (false = true) by decide)] at H; exact H
      clear H
      have H := H1
      clear H1
      by_cases c8 : a0 < a1
      · rw [if_pos c8] at H
        have c8b0 : decide (a0 < a1) = true := decide_eq_true c8
        clear c8
        obtain rfl := Option.some.inj H
        go_enter Try.func47, Try.ntmps47
        go_wp2_with (first | ((with_reducible refine gate_callee (f := 53) rfl ?_); refine goesL_ (some 8) rfl rfl Try.func53 (by kernel_rfl) rfl #[.int .u64 a0] rfl (by (try simp only [List.map_toArray, List.map_cons, List.map_nil]); first | done | rfl | (simp only [List.length_drop, List.length_take]; rfl)) ?_; (with_reducible refine (cmp_isNaN_uint64.calls a0 false _ A3.out).mono ?_); rintro e w' ⟨rfl, ⟨nd, rfl⟩⟩; refine ⟨_, rfl, ?_⟩) | ((with_reducible refine gate_callee (f := 53) rfl ?_); refine goesL_ (some 10) rfl rfl Try.func53 (by kernel_rfl) rfl #[.int .u64 a1] rfl (by (try simp only [List.map_toArray, List.map_cons, List.map_nil]); first | done | rfl | (simp only [List.length_drop, List.length_take]; rfl)) ?_; (with_reducible refine (cmp_isNaN_uint64.calls a1 false _ A4.out).mono ?_); rintro e w' ⟨rfl, ⟨nd, rfl⟩⟩; refine ⟨_, rfl, ?_⟩))
        go_ret
        exact ⟨by first | rfl | (simp; done) | (simp [*]; done), by repeat (first | exact Drawn0.refl _ | apply Drawn0.step)⟩
      · rw [if_neg c8] at H
        have c8b0 : decide (a0 < a1) = false := decide_eq_false c8
        clear c8
        by_cases c9 : a0 > a1
        · rw [if_pos c9] at H
          have c9b0 : decide (a1 < a0) = true := decide_eq_true c9
          clear c9
          obtain rfl := Option.some.inj H
          go_enter Try.func47, Try.ntmps47
          go_wp2_with (first | ((with_reducible refine gate_callee (f := 53) rfl ?_); refine goesL_ (some 8) rfl rfl Try.func53 (by kernel_rfl) rfl #[.int .u64 a0] rfl (by (try simp only [List.map_toArray, List.map_cons, List.map_nil]); first | done | rfl | (simp only [List.length_drop, List.length_take]; rfl)) ?_; (with_reducible refine (cmp_isNaN_uint64.calls a0 false _ A3.out).mono ?_); rintro e w' ⟨rfl, ⟨nd, rfl⟩⟩; refine ⟨_, rfl, ?_⟩) | ((with_reducible refine gate_callee (f := 53) rfl ?_); refine goesL_ (some 10) rfl rfl Try.func53 (by kernel_rfl) rfl #[.int .u64 a1] rfl (by (try simp only [List.map_toArray, List.map_cons, List.map_nil]); first | done | rfl | (simp only [List.length_drop, List.length_take]; rfl)) ?_; (with_reducible refine (cmp_isNaN_uint64.calls a1 false _ A4.out).mono ?_); rintro e w' ⟨rfl, ⟨nd, rfl⟩⟩; refine ⟨_, rfl, ?_⟩))
          go_ret
          exact ⟨by first | rfl | (simp; done) | (simp [*]; done), by repeat (first | exact Drawn0.refl _ | apply Drawn0.step)⟩
        · rw [if_neg c9] at H
          have c9b0 : decide (a1 < a0) = false := decide_eq_false c9
          clear c9
          obtain rfl := Option.some.inj H
          go_enter Try.func47, Try.ntmps47
          go_wp2_with (first | ((with_reducible refine gate_callee (f := 53) rfl ?_); refine goesL_ (some 8) rfl rfl Try.func53 (by kernel_rfl) rfl #[.int .u64 a0] rfl (by (try simp only [List.map_toArray, List.map_cons, List.map_nil]); first | done | rfl | (simp only [List.length_drop, List.length_take]; rfl)) ?_; (with_reducible refine (cmp_isNaN_uint64.calls a0 false _ A3.out).mono ?_); rintro e w' ⟨rfl, ⟨nd, rfl⟩⟩; refine ⟨_, rfl, ?_⟩) | ((with_reducible refine gate_callee (f := 53) rfl ?_); refine goesL_ (some 10) rfl rfl Try.func53 (by kernel_rfl) rfl #[.int .u64 a1] rfl (by (try simp only [List.map_toArray, List.map_cons, List.map_nil]); first | done | rfl | (simp only [List.length_drop, List.length_take]; rfl)) ?_; (with_reducible refine (cmp_isNaN_uint64.calls a1 false _ A4.out).mono ?_); rintro e w' ⟨rfl, ⟨nd, rfl⟩⟩; refine ⟨_, rfl, ?_⟩))
          go_ret
          exact ⟨by first | rfl | (simp; done) | (simp [*]; done), by repeat (first | exact Drawn0.refl _ | apply Drawn0.step)⟩

/-! ### spans in memory -/
instance : Inhabited S29 := ⟨z29⟩
def encS (x : S29) : List Value := [.int .u64 x.f0, .int .u64 x.f1]
theorem encS_len (x : S29) : (encS x).length = 2 := rfl
theorem encS_one (x : S29) : ∀ v ∈ encS x, v.oneCell' = true := by
  intro v hv
  simp [encS] at hv
  rcases hv with rfl | rfl <;> rfl
theorem spans_open {w : World} {A : Option Addr} {l : List S29} (h : Kd.C k29 w A l.length l) (hl : 0 < l.length) :
    ∃ b off, A = some ⟨b, off, none⟩ ∧ b < w.heap.size ∧ ∀ j, j < l.length → ∀ i v, (encS l[j]!)[i]? = some v → w.cell? ⟨b, off + j * 2 + i, none⟩ = some v := by
  obtain ⟨ad, hA, hcell⟩ := h.2.2 hl
  have hc : ∀ j, j < l.length → ∀ i v, (encS l[j]!)[i]? = some v → w.cell? (ad.add (j * 2 + i)) = some v := by
    intro j hj i v hv
    obtain ⟨c, hcl, hR, hcc⟩ := hcell j l[j] (by simp [hj])
    obtain rfl := k29_open hR
    refine hcc i v ?_
    rw [getElem!_pos l j hj] at hv
    exact hv
  obtain ⟨b, off, sp⟩ := ad
  have h0 := hc 0 hl 0 _ rfl
  have hsp : sp = none ∧ b < w.heap.size := by
    unfold World.cell? at h0
    cases hb : w.heap[b]? with
    | none => simp [Addr.add, hb] at h0
    | some o =>
      have hlt := (Array.getElem?_eq_some_iff.1 hb).1
      refine ⟨?_, hlt⟩
      cases sp with
      | none => rfl
      | some s => cases o <;> simp [Addr.add, hb] at h0
  obtain ⟨rfl, hb⟩ := hsp
  refine ⟨b, off, hA, hb, fun j hj i v hv => ?_⟩
  have := hc j hj i v hv
  rw [Addr.add_lit] at this
  rwa [Nat.add_assoc]
theorem spans_nil (w : World) (X : Option Addr) : Kd.C k29 w X 0 [] := ⟨rfl, by decide, fun h => absurd h (by decide)⟩

/-- A row of the call's own, made from base on, that holds l. -/
def Row (base : Nat) (W : World) (X : Option Addr) (cap : Nat) (l : List S29) : Prop :=
  l.length ≤ cap ∧ (l = [] ∨ ∃ g, X = some ⟨g, 0, none⟩ ∧ base ≤ g ∧ g < W.heap.size ∧ Go.Sort.HoldsK encS 2 W g 0 l.toArray)
theorem flat_get (l : List S29) (t : Nat) (h : t < l.length * 2) : (Go.Sort.flatK encS 2 l.toArray)[t]! = (encS l[t / 2]!)[t % 2]! := by
  rw [Go.Sort.get_flatK _ _ _ _ (by simpa using h)]
  have e : l.toArray[t / 2]! = l[t / 2]! := by
    rw [getElem!_pos l _ (by omega), getElem!_pos l.toArray _ (by simp; omega)]; simp
  rw [e]
theorem holds_reads {W : World} {g : Nat} {l : List S29} (hn : l.length ≤ 2048) (h : Go.Sort.HoldsK encS 2 W g 0 l.toArray) : Kd.C k29 W (some ⟨g, 0, none⟩) l.length l := by
  refine ⟨rfl, by omega, fun _ => ⟨_, rfl, fun j p hp => ⟨[.int .u64 p.f0, .int .u64 p.f1], rfl, k29_mk W p, fun i u hu => ?_⟩⟩⟩
  obtain ⟨hj, hjp⟩ := List.getElem?_eq_some_iff.1 hp
  have hi : i < 2 := by have := (List.getElem?_eq_some_iff.1 hu).1; simpa using this
  have ht : j * 2 + i < l.length * 2 := by omega
  have hc := (h (j * 2 + i) (by simpa using ht)).1
  rw [flat_get l _ ht, show (j * 2 + i) / 2 = j by omega, show (j * 2 + i) % 2 = i by omega, getElem!_pos l j hj, hjp] at hc
  have e : (encS p)[i]! = u := by
    rw [getElem!_pos (encS p) i (by rw [encS_len]; exact hi)]
    exact (List.getElem?_eq_some_iff.1 hu).2
  rw [e, Nat.zero_add] at hc
  show W.cell? ((⟨g, 0, none⟩ : Addr).add (j * 2 + i)) = some u
  rw [Addr.add_lit, Nat.zero_add]
  exact hc

/-! ### slices.Clone -/
theorem infoSp : (Try.prog.info? 29).map (fun i => (i.zero, i.size, i.bytes)) = some (some (.agg #[.int .u64 0, .int .u64 0]), 2, 16) := by kernel_rfl
theorem flat_length (l : List S29) : (l.flatMap encS).length = l.length * 2 := by
  induction l with
  | nil => rfl
  | cons x xs ih => rw [List.flatMap_cons, List.length_append, ih, encS_len, List.length_cons]; omega
theorem flatMap_get (l : List S29) (j i : Nat) (hj : j < l.length) (hi : i < 2) : (l.flatMap encS)[j * 2 + i]? = (encS l[j]!)[i]? := by
  induction l generalizing j with
  | nil => simp at hj
  | cons x xs ih =>
    rw [List.flatMap_cons]
    cases j with
    | zero => rw [Nat.zero_mul, Nat.zero_add, List.getElem?_append_left (by rw [encS_len]; exact hi)]; rfl
    | succ j =>
      rw [List.getElem?_append_right (by rw [encS_len]; omega), encS_len, show (j + 1) * 2 + i - 2 = j * 2 + i by omega, ih j (by simpa using hj)]
      simp
set_option maxHeartbeats 4000000 in
set_option maxRecDepth 100000 in
theorem clone_calls (A : Option Addr) (c : Nat) (l : List S29) (w : World) (h : Kd.C k29 w A l.length l) (hn : l.length ≤ 2048) :
    Calls Try.prog 44 #[.slice A l.length c] w fun e w' => ∃ (X : Option Addr) (cap : Nat), e = .returned (.slice X l.length cap) ∧ Row w.heap.size w' X cap l ∧ Below w.heap.size w w' := by
  have q36 : ∀ (w : World) (a : Option Addr) (n c n' c' : Nat), (binOp .eql 36 (.slice a n c) (.slice none n' c')).run Try.prog w = .ok (.bool a.isNone) w := fun w a n c n' c' => Lib.run_eql_slice_nil w _ _ a n c n' c' Try.underlying36
  cases A with
  | none =>
    have hl : l = [] := by
      cases l with
      | nil => rfl
      | cons x xs => obtain ⟨b, off, hA, _⟩ := spans_open h (by simp); cases hA
    subst hl
    clear h
    go_enter Try.func44, Try.ntmps44
    go_wp2
    go_ret
    exact ⟨none, 0, rfl, ⟨Nat.le_refl _, .inl rfl⟩, Below.refl _ _⟩
  | some ad =>
    obtain ⟨i0, hi, hzz⟩ := Option.map_eq_some_iff.1 infoSp
    simp only [Prod.mk.injEq] at hzz
    obtain ⟨hz0, hz1, hz2⟩ := hzz
    have hc0 : ∀ j u, (l.flatMap encS)[j]? = some u → w.cell? (ad.add j) = some u := by
      intro j u hu
      have hj : j < l.length * 2 := by have := (List.getElem?_eq_some_iff.1 hu).1; rwa [flat_length] at this
      obtain ⟨b, off, hA, _, hc⟩ := spans_open h (by omega)
      cases hA
      have e : j = j / 2 * 2 + j % 2 := by omega
      rw [e, flatMap_get l (j / 2) (j % 2) (by omega) (by omega)] at hu
      have := hc (j / 2) (by omega) (j % 2) u hu
      rw [e, Addr.add_lit, ← Nat.add_assoc]
      exact this
    have h1 : ∀ u ∈ l.flatMap encS, u.oneCell' = true := by
      intro u hu
      obtain ⟨x, _, hx⟩ := List.mem_flatMap.1 hu
      exact encS_one x u hx
    have hl2 := flat_length l
    have HA := Aside0.mk hc0
    have H1 := Aside0.mk h1
    have HL := Aside0.mk hl2
    have HI := Aside0.mk hi
    have HZ0 := Aside0.mk hz0
    have HZ1 := Aside0.mk hz1
    have HZ2 := Aside0.mk hz2
    clear hc0 h1 hl2 h hi hz0 hz1 hz2
    obtain ⟨news, hnews⟩ : ∃ ns, ns = l.flatMap encS := ⟨_, rfl⟩
    rw [← hnews] at HA H1 HL
    have HN := Aside0.mk hnews
    clear hnews
    obtain ⟨n, hn0⟩ : ∃ n, n = l.length := ⟨_, rfl⟩
    rw [← hn0] at hn HL ⊢
    have HN0 := Aside0.mk hn0
    clear hn0
    go_enter Try.func44, Try.ntmps44
    go_wp2_with (at_builtin; refine wpList_append_own _ rfl _ _ 36 rfl w.heap.size 29 i0 _ 2 16 Try.underlying36 HI.out HZ0.out HZ1.out HZ2.out rfl (by decide) _ _ _ rfl (World.ownsRow_made w #[] 0 (Nat.le_refl _) (Nat.zero_le _) (by simp)) ad n c news rfl ?qc1 ?qc2 ?qc3 ?qc4 ?qc5 ?qc6 ?_)
    case qc1 => exact HL.out
    case qc2 =>
      intro j u hj
      exact Lib.cell?_alloc_some _ (HA.out j u hj)
    case qc3 => exact H1.out
    case qc4 => simp only [maxLen]; omega
    case qc5 => omega
    case qc6 => simp
    intro v' w1 hown hgrow hnil
    go_wp2
    go_ret
    have hn0 := HN0.out
    replace hown : w1.ownsRow w.heap.size 29 2 v' n news := by simpa using hown
    have hbel : Below w.heap.size w w1 := ((Below.refl _ w).alloc (Nat.le_refl _) _).grown hgrow (by simp) (by intro k hk; simp [Value.ownBlock] at hk; omega)
    obtain ⟨hlen, ⟨rfl, hn1⟩ | ⟨g, cap, cur, rfl, hg, hheap, hcap, hmax, hsz, htake⟩⟩ := hown
    · have hl0 : l = [] := List.length_eq_zero_iff.1 (by omega)
      subst hl0
      exact ⟨none, 0, (by rw [hn1]; rfl), ⟨Nat.le_refl _, .inl rfl⟩, hbel⟩
    · refine ⟨some ⟨g, 0, none⟩, cap, rfl, ⟨by omega, .inr ⟨g, rfl, hg, (Array.getElem?_eq_some_iff.1 hheap).1, fun t ht => ?_⟩⟩, hbel⟩
      have ht : t < l.length * 2 := by simpa using ht
      rw [flat_get l t ht]
      have hcell : cur[t]? = some ((encS l[t / 2]!)[t % 2]!) := by
        have e1 : (cur.toList.take (n * 2))[t]? = cur[t]? := by
          rw [List.getElem?_take_of_lt (by omega)]; simp
        rw [← e1, htake, HN.out]
        have e : t = t / 2 * 2 + t % 2 := by omega
        have e2 := flatMap_get l (t / 2) (t % 2) (by omega) (by omega)
        rw [← e] at e2
        rw [e2, getElem!_pos (encS l[t / 2]!) (t % 2) (by rw [encS_len]; omega), List.getElem?_eq_getElem]
      constructor
      · simp [World.cell?, hheap, hcell]
      · simp [World.frozen?, hheap]

/-! ### slices.SortFunc -/
def spCmp (x y : S29) : Int := if x.f0 < y.f0 then -1 else if x.f0 > y.f0 then 1 else 0
theorem ltSp (x y : S29) : ltOf spCmp x y = decide (x.f0 < y.f0) := by
  unfold ltOf spCmp
  by_cases h1 : x.f0 < y.f0
  · simp [h1]
  · by_cases h2 : x.f0 > y.f0 <;> simp [h1, h2]
theorem swoSp : Go.Sort.SWO (ltOf spCmp) where
  irrefl x := by rw [ltSp]; simp
  trans x y z h1 h2 := by rw [ltSp] at *; simp at *; omega
  ntrans x y z h1 h2 := by rw [ltSp] at *; simp at *; omega
def spSort (l : List S29) : List S29 := (Go.Sort.pdq (ltOf spCmp) l.toArray 0 l.length (Lib.bitLen l.length) true true).toList
theorem spSort_sorts (l : List S29) : (spSort l).length = l.length ∧ (spSort l).Perm l ∧ (spSort l).Pairwise (fun x y => x.f0 ≤ y.f0) := by
  have h := Go.Sort.pdq_sorts (ltOf spCmp) swoSp l.toArray 0 l.length (Lib.bitLen l.length) true true (Nat.zero_le _) (by simp) (Or.inl rfl)
  obtain ⟨⟨h1, _, h3⟩, hs⟩ := h
  have e0 : (Go.Sort.pdq (ltOf spCmp) l.toArray 0 l.length (Lib.bitLen l.length) true true) = (spSort l).toArray := by simp [spSort]
  rw [e0] at h1 h3 hs
  have hlen : (spSort l).length = l.length := by simpa using h1
  refine ⟨hlen, ?_, ?_⟩
  · have e1 : ((spSort l).toArray.extract 0 l.length).toList = spSort l := by simp [← hlen]
    have e2 : (l.toArray.extract 0 l.length).toList = l := by simp
    rw [e1, e2] at h3
    exact h3
  · rw [List.pairwise_iff_getElem]
    intro i j hi hj hij
    have := hs i j (Nat.zero_le _) hij (by omega)
    rw [ltSp, getElem!_pos _ _ (by simpa using hj), getElem!_pos _ _ (by simpa using hi)] at this
    simpa using this
theorem cmpSp (x y : S29) : cmp_Compare_uint64.f x.f0 y.f0 = some (spCmp x y) := by
  simp only [cmp_Compare_uint64.f, cmp_isNaN_uint64.f, spCmp, Option.bind_some]
  simp only [bne_self_eq_false, Bool.false_eq_true, if_false]
  split <;> (try rfl)
  split <;> rfl
set_option maxHeartbeats 1000000 in
theorem closure46 (x y : S29) (W : World) : Calls Try.prog 46 #[.agg #[.int .u64 x.f0, .int .u64 x.f1], .agg #[.int .u64 y.f0, .int .u64 y.f1]] W fun e w' => e = .returned (.int .i64 (spCmp x y)) ∧ ∃ q os', w' = Go.Sort.grow (W.drewN q) os' := by
  have hcon := fun W' => cmp_Compare_uint64.calls x.f0 y.f0 _ W' (cmpSp x y)
  generalize spCmp x y = r at hcon ⊢
  go_enter Try.func46, Try.ntmps46
  go_wp2_with (go_at_call 47; refine (hcon _).mono ?_; rintro e w' ⟨rfl, ⟨nd, rfl⟩⟩)
  go_ret
  exact ⟨rfl, nd, _, by rw [Go.Sort.alloc_eq_grow, Go.Sort.alloc_eq_grow, Go.Sort.grow_grow]; rfl⟩
theorem below_sort {base : Nat} {a W : World} {g m : Nat} {os : Array Obj} {d : Array S29} (h : Below base a W) (hg : base ≤ g) (hB : base ≤ W.heap.size) : Below base a (sortWorldK encS 2 W g 0 m d os) := by
  refine h.trans ⟨rfl, rfl, rfl, ?_, fun k hk => ?_⟩
  · show W.heap.size ≤ ((W.heap.modify g _) ++ os).size
    rw [Array.size_append, Array.size_modify]; omega
  · show ((W.heap.modify g _) ++ os)[k]? = W.heap[k]?
    rw [Array.getElem?_append_left (by rw [Array.size_modify]; omega), Array.getElem?_modify, if_neg (by omega)]
set_option maxHeartbeats 4000000 in
theorem sort_calls (X : Option Addr) (cap : Nat) (l : List S29) (base : Nat) (W : World) (hr : Row base W X cap l) (hn : l.length ≤ 2048) (hB : base ≤ W.heap.size) :
    Calls Try.prog 45 #[.slice X l.length cap, .func (.func 46) #[] #[]] W fun e w' => e = .returned (.tuple #[]) ∧ Kd.C k29 w' X l.length (spSort l) ∧ Below base W w' := by
  obtain ⟨hs1, _, _⟩ := spSort_sorts l
  rcases hr.2 with rfl | ⟨g, rfl, hb, hg, hH⟩
  · have hcon := AnyF.slices_SortFunc_none Try.sortSp X cap (.func (.func 46) #[] #[]) W
    have e : spSort [] = [] := List.length_eq_zero_iff.1 hs1
    rw [e]
    exact hcon.mono fun e w' ⟨he, hw⟩ => ⟨he, spans_nil _ _, by rw [hw]; exact Below.refl _ _⟩
  · have eg : ∀ args w, (callFunc 46 args).run Try.prog w = .ok (.enter 46 args) w := enters_of Try.func46 (by kernel_rfl) rfl
    have hcon := AnyQ.slices_SortFunc_eq Try.sortSp 2 Try.isAgg29 Try.sizeOf29 encS encS_len encS_one spCmp swoSp 46 #[] g 0 cap l.toArray W eg (fun m os dk _ x y => closure46 x y _) hH hg (by simp; omega)
    rw [List.size_toArray] at hcon
    refine hcon.mono fun e w' ⟨he, n, os, hw⟩ => ⟨he, ?_, ?_⟩
    · have e0 : (Go.Sort.pdq (ltOf spCmp) l.toArray 0 l.length (Lib.bitLen l.length) true true) = (spSort l).toArray := by simp [spSort]
      rw [e0] at hw
      have hh := holdsK_sortWorldK_c encS 2 W g 0 l.toArray (spSort l).toArray n os hH hg (by simpa using hs1)
      rw [← hw] at hh
      have := holds_reads (by omega) hh
      rw [hs1] at this
      exact this
    · rw [hw]; exact below_sort (Below.refl _ _) hb hB

/-! ### slices.ContainsFunc -/
def mayB (h : Int) (x : S29) : Bool := cover_May.f h x.f0 x.f1 == some true
theorem may_some (h : Int) (hh : 0 ≤ h ∧ h ≤ 63) (x : S29) : cover_May.f h x.f0 x.f1 = some (mayB h x) := by
  have hh1 : cover_high.f h = some true := by unfold cover_high.f; rw [if_pos hh.1]; simp [hh.2]
  have : ∃ b, cover_May.f h x.f0 x.f1 = some b := by
    unfold cover_May.f
    rw [hh1]
    simp only [Option.bind_some, if_true]
    rw [if_pos hh.1]
    split
    · exact ⟨_, rfl⟩
    · exact ⟨_, rfl⟩
  obtain ⟨b, hb⟩ := this
  unfold mayB
  rw [hb]
  cases b <;> rfl
set_option maxHeartbeats 1000000 in
theorem pred43 (h : Int) (hh : 0 ≤ h ∧ h ≤ 63) (B : Nat) (w : World) (hB : B < w.heap.size) (hcell : w.cell? ⟨B, 0, none⟩ = some (.int .i64 h)) :
    PredBelow Try.prog 43 #[.pointer (some ⟨B, 0, none⟩)] (fun x => .agg (encS x).toArray) (fun x => !mayB h x) w := fun W x hb => by
  have hc : W.cell? ⟨B, 0, none⟩ = some (.int .i64 h) := (hb.cell (p := ⟨B, 0, none⟩) hB).trans hcell
  have hBW : B < W.heap.size := Nat.lt_of_lt_of_le hB hb.size
  have hne : B ≠ W.heap.size := by omega
  have hcon := fun W' => cover_May.calls h x.f0 x.f1 _ W' (may_some h hh x)
  show Calls Try.prog 43 #[.agg #[.int .u64 x.f0, .int .u64 x.f1], .pointer (some ⟨B, 0, none⟩)] W fun e w' => e = .returned (.bool (!mayB h x)) ∧ Below w.heap.size w w'
  generalize mayB h x = r at hcon ⊢
  go_enter Try.func43, Try.ntmps43
  go_wp2_with (go_at_call 26; refine (hcon _).mono ?_; rintro e w' ⟨rfl, ⟨nd, rfl⟩⟩)
  go_ret
  exact ⟨rfl, pw_below_drewN (hb.alloc hb.size _) nd⟩
set_option maxHeartbeats 1000000 in
theorem index_none (X : Option Addr) (cap : Nat) (fv : Value) (w : World) :
    Calls Try.prog 50 #[.slice X 0 cap, fv] w fun e w' => e = .returned (.int .i64 (-1)) ∧ w' = w := by
  go_enter Try.func50, Try.ntmps50
  go_wp2
  refine wp_loop_rounds 1 ?_
  rw [rounds_succ]
  go_wp2
  go_ret
  exact ⟨rfl, rfl⟩
set_option maxHeartbeats 1000000 in
theorem contains_calls (h : Int) (hh : 0 ≤ h ∧ h ≤ 63) (A : Option Addr) (c : Nat) (l : List S29) (B : Nat) (w : World) (hr : Kd.C k29 w A l.length l) (hn : l.length ≤ 2048) (hB : B < w.heap.size) (hcell : w.cell? ⟨B, 0, none⟩ = some (.int .i64 h)) :
    Calls Try.prog 42 #[.slice A l.length c, .func (.func 43) #[] #[.pointer (some ⟨B, 0, none⟩)]] w fun e w' => e = .returned (.bool (l.any fun x => !mayB h x)) ∧ Below w.heap.size w w' := by
  by_cases hl : 0 < l.length
  · obtain ⟨b, off, rfl, hb, hc⟩ := spans_open hr hl
    have eg : ∀ args w, (callFunc 43 args).run Try.prog w = .ok (.enter 43 args) w := enters_of Try.func43 (by kernel_rfl) rfl
    have hcon := AnyQ.slices_ContainsFunc Try.containsSp 2 Try.isAgg29 Try.sizeOf29 encS encS_len (fun x => !mayB h x) 43 #[.pointer (some ⟨B, 0, none⟩)] eg b off l.length c l w (pred43 h hh B w hB hcell) (Nat.le_refl _) (by omega) hb hc
    rw [List.take_length] at hcon
    exact hcon
  · have hl0 : l = [] := List.length_eq_zero_iff.1 (by omega)
    subst hl0
    have hcon := fun W => index_none A c (.func (.func 43) #[] #[.pointer (some ⟨B, 0, none⟩)]) W
    clear hr hcell
    go_enter Try.func42, Try.ntmps42
    go_wp2_with (go_at_call 50; refine (hcon _).mono ?_; rintro e w' ⟨rfl, rfl⟩)
    go_ret
    exact ⟨rfl, Below.refl _ _⟩
end Go.Proofs.Ytaeaacdjiijooaa.Pr
