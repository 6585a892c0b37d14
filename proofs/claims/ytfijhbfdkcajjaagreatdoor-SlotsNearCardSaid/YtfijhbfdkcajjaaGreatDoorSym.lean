/- The contract of slices.symMergeCmpFunc at rows. -/
import Derived.Test.YtfijhbfdkcajjaaGreatDoorRotate
import Derived.Deep.DeepCutAuto
import Derived.Deep.LoopGhost
namespace Go.Proofs.YtfijhbfdkcajjaaGreatDoor.Pr
open Go.RowKit Go.Proofs.YtfijhbfdkcajjaaGreatDoorW.PrintWords Go.Proofs.YtfijhbfdkcajjaaGreatDoorW.PrintLast Go.Proofs.YtfijhbfdkcajjaaGreatDoorW.PrintMore Go.SortKey Go.Shelf Go.Sort Go.Lib Go.SymSort
set_option linter.unusedVariables false
set_option linter.unusedSimpArgs false
abbrev ltR : S45 → S45 → Bool := ltOf (keyCmp rowKey)
/-- What a comparison of two rows asks and says, in every world that the statement may draw. -/
theorem cmp_eqs (g : Nat) (d dk : Array S45) (m : Nat) (os : Array Obj) (w : World) (hH : HoldsK encR 3 w g 0 d) (hg : g < w.heap.size) (hs : dk.size = d.size) (i j : Nat) (hi : i < dk.size) (hj : j < dk.size) :
    ∃ (k3 : Nat) (cI cJ : List Value), (∀ w, Sem.run Tryz.prog (Go.sizeOf 45) w = .ok k3 w) ∧ cI.length = k3 ∧ cJ.length = k3 ∧
      (∀ n' os', Sem.run Tryz.prog (loadCellsFrom ⟨g, i * 3, none⟩ 0 k3 #[]) (grow ((sortWorldK encR 3 w g 0 m dk os).drewN n') os') = .ok cI.toArray (grow ((sortWorldK encR 3 w g 0 m dk os).drewN n') os')) ∧
      (∀ n' os', Sem.run Tryz.prog (loadCellsFrom ⟨g, j * 3, none⟩ 0 k3 #[]) (grow ((sortWorldK encR 3 w g 0 m dk os).drewN n') os') = .ok cJ.toArray (grow ((sortWorldK encR 3 w g 0 m dk os).drewN n') os')) ∧
      (∀ n' os', Calls Tryz.prog 70 #[.agg cI.toArray, .agg cJ.toArray] (grow ((sortWorldK encR 3 w g 0 m dk os).drewN n') os') fun e w' => e = .returned (.int .i64 (keyCmp rowKey dk[i]! dk[j]!)) ∧ ∃ q os'', w' = grow ((grow ((sortWorldK encR 3 w g 0 m dk os).drewN n') os').drewN q) os'') ∧
      ∀ n' os', grow ((sortWorldK encR 3 w g 0 m dk os).drewN n') os' = sortWorldK encR 3 w g 0 (m + n') dk (os ++ os') := by
  have hcls : ∀ n' os', grow ((sortWorldK encR 3 w g 0 m dk os).drewN n') os' = sortWorldK encR 3 w g 0 (m + n') dk (os ++ os') := fun n' os' => sortWorldK_grown_c encR 3 w g 0 m n' dk os os'
  have hHc : ∀ n' os', HoldsK encR 3 (grow ((sortWorldK encR 3 w g 0 m dk os).drewN n') os') g 0 dk := fun n' os' => by rw [hcls]; exact holdsK_sortWorldK_c encR 3 w g 0 d dk _ _ hH hg hs
  refine ⟨3, encR dk[i]!, encR dk[j]!, Tryz.sizeOf45, encR_len _, encR_len _, fun n' os' => ?_, fun n' os' => ?_, fun n' os' => ?_, hcls⟩
  · have h_ := run_loadCellsFrom_list Tryz.prog _ _ _ 3 (encR_len _) (HoldsK.cells (hHc n' os') encR_len (i := i) hi)
    rw [Nat.zero_add] at h_
    exact h_
  · have h_ := run_loadCellsFrom_list Tryz.prog _ _ _ 3 (encR_len _) (HoldsK.cells (hHc n' os') encR_len (i := j) hj)
    rw [Nat.zero_add] at h_
    exact h_
  · exact rowCmp_calls _ _ _
theorem half (i j : Nat) (hs : i + j ≤ 1000000) : ∃ h : Nat, (2 * h ≤ i + j ∧ i + j ≤ 2 * h + 1) ∧ IntKind.i64.wrap ((i : Int) + (j : Int)) = (i : Int) + (j : Int) ∧ IntKind.u64.wrap ((i : Int) + (j : Int)) = (i : Int) + (j : Int) ∧ ((i : Int) + (j : Int)) / 2 = (h : Int) ∧ IntKind.i64.wrap (h : Int) = (h : Int) ∧ IntKind.u64.wrap (h : Int) = (h : Int) := by
  refine ⟨(i + j) / 2, ⟨by omega, by omega⟩, ?_, IntWalk.u64_in _ (by omega), by omega, ?_, IntWalk.u64_in _ (by omega)⟩
  · rw [IntKind.wrap_i64]; omega
  · rw [IntKind.wrap_i64]; omega
/-- The same, cell by cell. -/
theorem cmp_cells (g : Nat) (d dk : Array S45) (m : Nat) (os : Array Obj) (w : World) (hH : HoldsK encR 3 w g 0 d) (hg : g < w.heap.size) (hs : dk.size = d.size) (i j : Nat) (hi : i < dk.size) (hj : j < dk.size) :
    (∀ n' os', (grow ((sortWorldK encR 3 w g 0 m dk os).drewN n') os').cell? ⟨g, i * 3, none⟩ = some (.string (dk[i]!).f0)) ∧
    (∀ n' os', (grow ((sortWorldK encR 3 w g 0 m dk os).drewN n') os').cell? ⟨g, i * 3 + 1, none⟩ = some (.int .u64 (dk[i]!).f1.f0)) ∧
    (∀ n' os', (grow ((sortWorldK encR 3 w g 0 m dk os).drewN n') os').cell? ⟨g, i * 3 + 2, none⟩ = some (.int .u64 (dk[i]!).f1.f1)) ∧
    (∀ n' os', (grow ((sortWorldK encR 3 w g 0 m dk os).drewN n') os').cell? ⟨g, j * 3, none⟩ = some (.string (dk[j]!).f0)) ∧
    (∀ n' os', (grow ((sortWorldK encR 3 w g 0 m dk os).drewN n') os').cell? ⟨g, j * 3 + 1, none⟩ = some (.int .u64 (dk[j]!).f1.f0)) ∧
    (∀ n' os', (grow ((sortWorldK encR 3 w g 0 m dk os).drewN n') os').cell? ⟨g, j * 3 + 2, none⟩ = some (.int .u64 (dk[j]!).f1.f1)) ∧
    (∀ n' os', Calls Tryz.prog 70 #[.agg #[.string (dk[i]!).f0, .int .u64 (dk[i]!).f1.f0, .int .u64 (dk[i]!).f1.f1], .agg #[.string (dk[j]!).f0, .int .u64 (dk[j]!).f1.f0, .int .u64 (dk[j]!).f1.f1]] (grow ((sortWorldK encR 3 w g 0 m dk os).drewN n') os') fun e w' => e = .returned (.int .i64 (keyCmp rowKey dk[i]! dk[j]!)) ∧ ∃ q os'', w' = grow ((grow ((sortWorldK encR 3 w g 0 m dk os).drewN n') os').drewN q) os'') ∧
      ∀ n' os', grow ((sortWorldK encR 3 w g 0 m dk os).drewN n') os' = sortWorldK encR 3 w g 0 (m + n') dk (os ++ os') := by
  have hcls : ∀ n' os', grow ((sortWorldK encR 3 w g 0 m dk os).drewN n') os' = sortWorldK encR 3 w g 0 (m + n') dk (os ++ os') := fun n' os' => sortWorldK_grown_c encR 3 w g 0 m n' dk os os'
  have hHc : ∀ n' os', HoldsK encR 3 (grow ((sortWorldK encR 3 w g 0 m dk os).drewN n') os') g 0 dk := fun n' os' => by rw [hcls]; exact holdsK_sortWorldK_c encR 3 w g 0 d dk _ _ hH hg hs
  have cel : ∀ x, x < dk.size → ∀ j u, (encR dk[x]!)[j]? = some u → ∀ n' os', (grow ((sortWorldK encR 3 w g 0 m dk os).drewN n') os').cell? ⟨g, x * 3 + j, none⟩ = some u := fun x hx j u hu n' os' => by
    have h_ := HoldsK.cells (hHc n' os') encR_len (i := x) hx j u hu
    rw [Nat.zero_add, Addr.add_lit] at h_
    exact h_
  exact ⟨fun n' os' => cel i hi 0 _ rfl n' os', fun n' os' => cel i hi 1 _ rfl n' os', fun n' os' => cel i hi 2 _ rfl n' os', fun n' os' => cel j hj 0 _ rfl n' os', fun n' os' => cel j hj 1 _ rfl n' os', fun n' os' => cel j hj 2 _ rfl n' os', fun n' os' => rowCmp_calls _ _ _, hcls⟩
theorem lt_down {d : Array S45} {m b x h : Nat} (hs : SortedIn ltR m b d) (h1 : m ≤ h) (h2 : h < b) (hl : ltR d[h]! d[x]! = true) : ∀ c, m ≤ c → c ≤ h → ltR d[c]! d[x]! = true := by
  intro c hc hch
  cases e : ltR d[c]! d[x]! with
  | true => rfl
  | false =>
    have : ltR d[h]! d[x]! = false := by
      rcases Nat.eq_or_lt_of_le hch with rfl | h3
      · exact e
      · exact (swoKey rowKey).ntrans _ _ _ (hs c h hc h3 h2) e
    rw [this] at hl; cases hl
theorem lt_up {d : Array S45} {m b x h : Nat} (hs : SortedIn ltR m b d) (h1 : m ≤ h) (h2 : h < b) (hl : ltR d[h]! d[x]! = false) : ∀ c, h ≤ c → c < b → ltR d[c]! d[x]! = false := by
  intro c hc hcb
  rcases Nat.eq_or_lt_of_le hc with rfl | h3
  · exact hl
  · exact (swoKey rowKey).ntrans _ _ _ (hs h c h1 h3 hcb) hl
theorem gt_down {d : Array S45} {a m x h : Nat} (hs : SortedIn ltR a m d) (h1 : a ≤ h) (h2 : h < m) (hl : ltR d[x]! d[h]! = false) : ∀ c, a ≤ c → c ≤ h → ltR d[x]! d[c]! = false := by
  intro c hc hch
  rcases Nat.eq_or_lt_of_le hch with rfl | h3
  · exact hl
  · exact (swoKey rowKey).ntrans _ _ _ hl (hs c h hc h3 h2)
theorem gt_up {d : Array S45} {a m x h : Nat} (hs : SortedIn ltR a m d) (h1 : a ≤ h) (h2 : h < m) (hl : ltR d[x]! d[h]! = true) : ∀ c, h ≤ c → c < m → ltR d[x]! d[c]! = true := by
  intro c hc hcm
  cases e : ltR d[x]! d[c]! with
  | true => rfl
  | false =>
    have : ltR d[x]! d[h]! = false := by
      rcases Nat.eq_or_lt_of_le hc with rfl | h3
      · exact e
      · exact (swoKey rowKey).ntrans _ _ _ e (hs h c h1 h3 hcm)
    rw [this] at hl; cases hl
set_option maxRecDepth 100000 in
set_option maxHeartbeats 8000000 in
/-- The left run is one row. -/
theorem sym_left1 (g cap a m b : Nat) (hma : m = a + 1) (d : Array S45) (w : World) (hH : HoldsK encR 3 w g 0 d) (hg : g < w.heap.size) (hab : a + 1 < b) (hb : b ≤ d.size) (hd : d.size ≤ 100000) (hs : SortedIn ltR (a + 1) b d) :
    Calls Tryz.prog 112 #[.slice (some ⟨g, 0, none⟩) d.size cap, .int .i64 (a : Int), .int .i64 (m : Int), .int .i64 (b : Int), .func (.func 70) #[] #[]] w fun e w' => e = .returned (.tuple #[]) ∧ ∃ n d' os, w' = sortWorldK encR 3 w g 0 n d' os ∧ PermIn a b d d' ∧ SortedIn ltR a b d' := by
  have eg : ∀ args w, (callFunc 70 args).run Tryz.prog w = .ok (.enter 70 args) w := enters_of Tryz.func70 (by kernel_rfl) rfl
  have mixed : Tryz.prog.follows Departure.mixedOrders = true := by kernel_rfl
  have HST : Hid (w = sortWorldK encR 3 w g 0 0 d #[]) := by show w = _; unfold sortWorldK; rw [grow_empty]; exact (putRowK_self encR 3 w g 0 d hH).symm
  have HH : Hid (HoldsK encR 3 w g 0 d) := hH
  have HG : Hid (g < w.heap.size) := hg
  have HS : Hid (SortedIn ltR (a + 1) b d) := hs
  clear hH hg hs
  have e1 : IntKind.i64.wrap ((m : Int) - (a : Int)) = 1 := by rw [IntKind.wrap_i64]; omega
  have z1 : (m : Int) - (a : Int) = 1 := by omega
  have HM : Hid (m = a + 1) := hma
  have hm1 : m ≤ a + 1 ∧ a + 1 ≤ m := by omega
  clear hma
  go_enter Tryz.func112, Tryz.ntmps112
  go_wp2_with fail
  go_loopg [10, 11] b (fun g1 vi vj wr => ∃ (i j n : Nat) (os : Array Obj), vi = .int .i64 i ∧ vj = .int .i64 j ∧ a + 1 ≤ i ∧ i ≤ j ∧ j ≤ b ∧ j - i ≤ g1 ∧ wr = sortWorldK encR 3 w g 0 n d os ∧ Hid ((∀ c, a + 1 ≤ c → c < i → ltR d[c]! d[a]! = true) ∧ ∀ c, j ≤ c → c < b → ltR d[c]! d[a]! = false))
  case atStart => exact ⟨a + 1, b, 0, #[], by rw [HM.out], rfl, Nat.le_refl _, by omega, Nat.le_refl _, by omega, HST.out, ⟨fun c h1 h2 => absurd h2 (by omega), fun c h1 h2 => absurd h2 (by omega)⟩⟩
  case round =>
    obtain ⟨i, j, n, os, rfl, rfl, hi, hij, hj, hg1, rfl, hI⟩ := hrel
    have HI : Hid _ := hI
    clear hI
    by_cases hlt : i < j
    · have hltz : (i : Int) < (j : Int) := by omega
      obtain ⟨h, hh, f1, f2, f3, f4, f4u⟩ := half i j (by omega)
      have hb1 : i ≤ h ∧ h < j := by omega
      clear hh
      have p0 : (0 : Int) ≤ (h : Int) := by omega
      have p1 : (h : Int) < (d.size : Int) := by omega
      have p2 : (0 : Int) ≤ (a : Int) := by omega
      have p3 : (a : Int) < (d.size : Int) := by omega
      have f5 : IntKind.i64.wrap ((h : Int) + 1) = ((h + 1 : Nat) : Int) := by rw [IntKind.wrap_i64]; omega
      obtain ⟨l0, l1, l2, l3, l4, l5, hcg, hcls⟩ := cmp_cells g d d n os w HH.out HG.out rfl h a (by omega) (by omega)
      have CLS : Hid _ := hcls
      clear hcls
      generalize hwq : sortWorldK encR 3 w g 0 n d os = wq at l0 l1 l2 l3 l4 l5 hcg CLS ⊢
      clear hwq
      by_cases hlv : keyCmp rowKey d[h]! d[a]! < 0
      · have hb1_ : decide (keyCmp rowKey d[h]! d[a]! < 0) = true := decide_eq_true hlv
        have hb2_ : decide (0 ≤ keyCmp rowKey d[h]! d[a]!) = false := decide_eq_false (by omega)
        have HLV : Hid (ltR d[h]! d[a]! = true) := decide_eq_true hlv
        go_wp2_with fail
        go_quiet_grown (first | (go_at_fn 70; refine Calls.grown_of (hcg _ _)))
        go_wp2
        go_roundg (j - (h + 1))
        case measure => omega
        case rel => exact ⟨h + 1, j, _, _, by first | rfl | (congr 1; omega) | go_num, rfl, by omega, by omega, hj, Nat.le_refl _, CLS.out nq osq, ⟨fun c h1 h2 => lt_down HS.out (by omega) (by omega) HLV.out c h1 (by omega), HI.out.2⟩⟩
      · have hb1_ : decide (keyCmp rowKey d[h]! d[a]! < 0) = false := decide_eq_false hlv
        have hb2_ : decide (0 ≤ keyCmp rowKey d[h]! d[a]!) = true := decide_eq_true (by omega)
        have HLV : Hid (ltR d[h]! d[a]! = false) := decide_eq_false hlv
        go_wp2_with fail
        go_quiet_grown (first | (go_at_fn 70; refine Calls.grown_of (hcg _ _)))
        go_wp2
        go_roundg (h - i)
        case measure => omega
        case rel => exact ⟨i, h, _, _, rfl, by first | rfl | (congr 1; omega) | go_num, hi, by omega, by omega, Nat.le_refl _, CLS.out nq osq, ⟨HI.out.1, fun c h1 h2 => lt_up HS.out (by omega) (by omega) HLV.out c h1 h2⟩⟩
    · have hltz : ¬ (i : Int) < (j : Int) := by omega
      have f6 : IntKind.i64.wrap ((i : Int) - 1) = ((i - 1 : Nat) : Int) := by rw [IntKind.wrap_i64]; omega
      go_wp2_with fail
      go_loopg [13] b (fun g2 vk wr2 => ∃ (t m : Nat) (os2 : Array Obj), vk = .int .i64 ((a + t : Nat) : Int) ∧ a + t ≤ i - 1 ∧ i - 1 - (a + t) ≤ g2 ∧ wr2 = sortWorldK encR 3 w g 0 m (carR d a t) os2)
      case atStart => exact ⟨0, n, os, rfl, by omega, by omega, rfl⟩
      case round =>
        obtain ⟨t, m, os2, rfl, ht, hg2, rfl⟩ := hrel
        by_cases hkt : a + t < i - 1
        · have hktz : ((a + t : Nat) : Int) < ((i - 1 : Nat) : Int) := by omega
          have f7 : IntKind.i64.wrap (((a + t : Nat) : Int) + 1) = ((a + t + 1 : Nat) : Int) := by rw [IntKind.wrap_i64]; omega
          have q0 : (0 : Int) ≤ ((a + t : Nat) : Int) := by omega
          have q1 : ((a + t : Nat) : Int) < (d.size : Int) := by omega
          have q2 : (0 : Int) ≤ ((a + t + 1 : Nat) : Int) := by omega
          have q3 : ((a + t + 1 : Nat) : Int) < (d.size : Int) := by omega
          obtain ⟨k3, cA, cB, zE, hsA, hsB, la, lb, s1, s2, hsw⟩ := swap_eqs g d (carR d a t) m os2 w HH.out HG.out (size_carR d a t) (a + t) (a + t + 1) (by rw [size_carR]; omega) (by rw [size_carR]; omega)
          have HSW : Hid _ := hsw
          clear hsw
          generalize hwq : sortWorldK encR 3 w g 0 m (carR d a t) os2 = wq at la lb s1 s2 HSW ⊢
          clear hwq
          go_wp2_with fail
          have aE := Tryz.isAgg45
          generalize (45 : Nat) = T at zE aE ⊢
          go_big_region_o
          all_goals go_wp2
          go_roundg (i - 1 - (a + t + 1))
          case measure => omega
          case rel => exact ⟨t + 1, m + 1, os2, by first | rfl | go_num | (congr 1; omega), by omega, by omega, by rw [carR, ← HSW.out]⟩
        · have hktz : ¬ ((a + t : Nat) : Int) < ((i - 1 : Nat) : Int) := by omega
          go_wp2
          (try simp only [Exit.inBlock, Exit.then]); refine bodyPost_ret (results_none rfl _ _ _) rfl ?_
          first
          | exact ⟨rfl, m, _, os2, by rw [show t = i - 1 - a by omega], carR_perm d a b hb _ (by omega), one_left (swoKey rowKey) d a b i hb HS.out HI.out.1 (fun c h1 h2 => HI.out.2 c (by omega) h2) hi (by omega)⟩
          | exact ⟨rfl, m, _, ⟨os2, by rw [show t = i - 1 - a by omega]⟩, carR_perm d a b hb _ (by omega), one_left (swoKey rowKey) d a b i hb HS.out HI.out.1 (fun c h1 h2 => HI.out.2 c (by omega) h2) hi (by omega)⟩
set_option maxRecDepth 100000 in
set_option maxHeartbeats 8000000 in
/-- The right run is one row. -/
theorem sym_right1 (g cap a m b : Nat) (hmb : b = m + 1) (d : Array S45) (w : World) (hH : HoldsK encR 3 w g 0 d) (hg : g < w.heap.size) (ham : a + 1 < m) (hb : m + 1 ≤ d.size) (hd : d.size ≤ 100000) (hs : SortedIn ltR a m d) :
    Calls Tryz.prog 112 #[.slice (some ⟨g, 0, none⟩) d.size cap, .int .i64 (a : Int), .int .i64 (m : Int), .int .i64 (b : Int), .func (.func 70) #[] #[]] w fun e w' => e = .returned (.tuple #[]) ∧ ∃ n d' os, w' = sortWorldK encR 3 w g 0 n d' os ∧ PermIn a (m + 1) d d' ∧ SortedIn ltR a (m + 1) d' := by
  have eg : ∀ args w, (callFunc 70 args).run Tryz.prog w = .ok (.enter 70 args) w := enters_of Tryz.func70 (by kernel_rfl) rfl
  have mixed : Tryz.prog.follows Departure.mixedOrders = true := by kernel_rfl
  have HST : Hid (w = sortWorldK encR 3 w g 0 0 d #[]) := by show w = _; unfold sortWorldK; rw [grow_empty]; exact (putRowK_self encR 3 w g 0 d hH).symm
  have HH : Hid (HoldsK encR 3 w g 0 d) := hH
  have HG : Hid (g < w.heap.size) := hg
  have HS : Hid (SortedIn ltR a m d) := hs
  clear hH hg hs
  have e1 : IntKind.i64.wrap ((m : Int) - (a : Int)) = ((m - a : Nat) : Int) := by rw [IntKind.wrap_i64]; omega
  have e2 : ¬ (((m - a : Nat) : Int) = 1) := by omega
  have e2b : (((m - a : Nat) : Int) == 1) = false := by simpa using e2
  have e3 : IntKind.i64.wrap ((b : Int) - (m : Int)) = 1 := by rw [IntKind.wrap_i64]; omega
  have z3 : (b : Int) - (m : Int) = 1 := by omega
  clear hmb
  go_enter Tryz.func112, Tryz.ntmps112
  go_wp2_with fail
  go_loopg [14, 15] m (fun g1 vi vj wr => ∃ (i j n : Nat) (os : Array Obj), vi = .int .i64 i ∧ vj = .int .i64 j ∧ a ≤ i ∧ i ≤ j ∧ j ≤ m ∧ j - i ≤ g1 ∧ wr = sortWorldK encR 3 w g 0 n d os ∧ Hid ((∀ c, a ≤ c → c < i → ltR d[m]! d[c]! = false) ∧ ∀ c, j ≤ c → c < m → ltR d[m]! d[c]! = true))
  case atStart => exact ⟨a, m, 0, #[], rfl, rfl, Nat.le_refl _, by omega, Nat.le_refl _, by omega, HST.out, ⟨fun c h1 h2 => absurd h2 (by omega), fun c h1 h2 => absurd h2 (by omega)⟩⟩
  case round =>
    obtain ⟨i, j, n, os, rfl, rfl, hi, hij, hj, hg1, rfl, hI⟩ := hrel
    have HI : Hid _ := hI
    clear hI
    by_cases hlt : i < j
    · have hltz : (i : Int) < (j : Int) := by omega
      obtain ⟨h, hh, f1, f2, f3, f4, f4u⟩ := half i j (by omega)
      have hb1 : i ≤ h ∧ h < j := by omega
      clear hh
      have p0 : (0 : Int) ≤ (h : Int) := by omega
      have p1 : (h : Int) < (d.size : Int) := by omega
      have p2 : (0 : Int) ≤ (m : Int) := by omega
      have p3 : (m : Int) < (d.size : Int) := by omega
      have f5 : IntKind.i64.wrap ((h : Int) + 1) = ((h + 1 : Nat) : Int) := by rw [IntKind.wrap_i64]; omega
      obtain ⟨k3, cI, cJ, zE, hcI, hcJ, lI, lJ, hcg, hcls⟩ := cmp_eqs g d d n os w HH.out HG.out rfl m h (by omega) (by omega)
      have CLS : Hid _ := hcls
      clear hcls
      generalize hwq : sortWorldK encR 3 w g 0 n d os = wq at lI lJ hcg CLS ⊢
      clear hwq
      by_cases hlv : keyCmp rowKey d[m]! d[h]! < 0
      · have hb1_ : decide (keyCmp rowKey d[m]! d[h]! < 0) = true := decide_eq_true hlv
        have hb2_ : decide (0 ≤ keyCmp rowKey d[m]! d[h]!) = false := decide_eq_false (by omega)
        have HLV : Hid (ltR d[m]! d[h]! = true) := decide_eq_true hlv
        go_wp2_with fail
        have aE := Tryz.isAgg45
        generalize (45 : Nat) = T at zE aE ⊢
        go_quiet_grown (first | (go_at_fn 70; refine Calls.grown_of (hcg _ _)))
        go_wp2
        go_roundg (h - i)
        case measure => omega
        case rel => exact ⟨i, h, _, _, rfl, by first | rfl | (congr 1; omega) | go_num, hi, by omega, by omega, Nat.le_refl _, CLS.out nq osq, ⟨HI.out.1, fun c h1 h2 => gt_up HS.out (by omega) (by omega) HLV.out c h1 h2⟩⟩
      · have hb1_ : decide (keyCmp rowKey d[m]! d[h]! < 0) = false := decide_eq_false hlv
        have hb2_ : decide (0 ≤ keyCmp rowKey d[m]! d[h]!) = true := decide_eq_true (by omega)
        have HLV : Hid (ltR d[m]! d[h]! = false) := decide_eq_false hlv
        go_wp2_with fail
        have aE := Tryz.isAgg45
        generalize (45 : Nat) = T at zE aE ⊢
        go_quiet_grown (first | (go_at_fn 70; refine Calls.grown_of (hcg _ _)))
        go_wp2
        go_roundg (j - (h + 1))
        case measure => omega
        case rel => exact ⟨h + 1, j, _, _, by first | rfl | (congr 1; omega) | go_num, rfl, by omega, by omega, hj, Nat.le_refl _, CLS.out nq osq, ⟨fun c h1 h2 => gt_down HS.out (by omega) (by omega) HLV.out c h1 (by omega), HI.out.2⟩⟩
    · have hltz : ¬ (i : Int) < (j : Int) := by omega
      go_wp2_with fail
      go_loopg [17] m (fun g2 vk wr2 => ∃ (t q : Nat) (os2 : Array Obj), vk = .int .i64 ((m - t : Nat) : Int) ∧ t ≤ m - i ∧ m - i - t ≤ g2 ∧ wr2 = sortWorldK encR 3 w g 0 q (carL d m t) os2)
      case atStart => exact ⟨0, n, os, rfl, by omega, by omega, rfl⟩
      case round =>
        obtain ⟨t, q, os2, rfl, ht, hg2, rfl⟩ := hrel
        by_cases hkt : i < m - t
        · have hktz : (i : Int) < ((m - t : Nat) : Int) := by omega
          have f7 : IntKind.i64.wrap (((m - t : Nat) : Int) - 1) = ((m - t - 1 : Nat) : Int) := by rw [IntKind.wrap_i64]; omega
          have q0 : (0 : Int) ≤ ((m - t : Nat) : Int) := by omega
          have q1 : ((m - t : Nat) : Int) < (d.size : Int) := by omega
          have q2 : (0 : Int) ≤ ((m - t - 1 : Nat) : Int) := by omega
          have q3 : ((m - t - 1 : Nat) : Int) < (d.size : Int) := by omega
          obtain ⟨k3, cA, cB, zE, hsA, hsB, la, lb, s1, s2, hsw⟩ := swap_eqs g d (carL d m t) q os2 w HH.out HG.out (size_carL d m t) (m - t) (m - t - 1) (by rw [size_carL]; omega) (by rw [size_carL]; omega)
          have HSW : Hid _ := hsw
          clear hsw
          generalize hwq : sortWorldK encR 3 w g 0 q (carL d m t) os2 = wq at la lb s1 s2 HSW ⊢
          clear hwq
          go_wp2_with fail
          have aE := Tryz.isAgg45
          generalize (45 : Nat) = T at zE aE ⊢
          go_big_region_o
          all_goals go_wp2
          go_roundg (m - i - (t + 1))
          case measure => omega
          case rel => exact ⟨t + 1, q + 1, os2, by first | rfl | go_num | (congr 1; omega), by omega, by omega, by rw [carL, ← HSW.out]⟩
        · have hktz : ¬ (i : Int) < ((m - t : Nat) : Int) := by omega
          go_wp2
          (try simp only [Exit.inBlock, Exit.then]); refine bodyPost_ret (results_none rfl _ _ _) rfl ?_
          first
          | exact ⟨rfl, q, _, os2, by rw [show t = m - i by omega], carL_perm d a m hb _ (by omega), one_right (swoKey rowKey) d a m i (by omega) HS.out HI.out.1 (fun c h1 h2 => HI.out.2 c (by omega) h2) hi (by omega)⟩
          | exact ⟨rfl, q, _, ⟨os2, by rw [show t = m - i by omega]⟩, carL_perm d a m hb _ (by omega), one_right (swoKey rowKey) d a m i (by omega) HS.out HI.out.1 (fun c h1 h2 => HI.out.2 c (by omega) h2) hi (by omega)⟩
end Go.Proofs.YtfijhbfdkcajjaaGreatDoor.Pr
