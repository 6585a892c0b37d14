/- The contract of slices.stableCmpFunc at rows: at most 300 of them. -/
import Derived.Test.YtfijhbfdkcajjaaGreatDoorSym2
namespace Go.Proofs.YtfijhbfdkcajjaaGreatDoor.Pr
open Go.RowKit Go.Proofs.YtfijhbfdkcajjaaGreatDoorW.PrintWords Go.Proofs.YtfijhbfdkcajjaaGreatDoorW.PrintLast Go.Proofs.YtfijhbfdkcajjaaGreatDoorW.PrintMore Go.SortKey Go.Shelf Go.Sort Go.Lib Go.SymSort
set_option linter.unusedVariables false
set_option linter.unusedSimpArgs false
theorem ins_calls (g cap a b : Nat) (d : Array S45) (w : World) (hH : HoldsK encR 3 w g 0 d) (hg : g < w.heap.size) (hab : a ≤ b) (hb : b ≤ d.size) (hd : d.size ≤ 100000) :
    Calls Tryz.prog 111 #[.slice (some ⟨g, 0, none⟩) d.size cap, .int .i64 (a : Int), .int .i64 (b : Int), .func (.func 70) #[] #[]] w fun e w' => e = .returned (.tuple #[]) ∧ ∃ n d' os, w' = sortWorldK encR 3 w g 0 n d' os ∧ PermIn a b d d' ∧ SortedIn ltR a b d' := by
  have eg : ∀ args w, (callFunc 70 args).run Tryz.prog w = .ok (.enter 70 args) w := enters_of Tryz.func70 (by kernel_rfl) rfl
  refine (AnyQ.insertionSortCmpFunc Tryz.insRow 3 Tryz.isAgg45 Tryz.sizeOf45 encR encR_len encR_one (keyCmp rowKey) 70 #[] g 0 cap a b d w eg (fun m os dk _ x y => rowCmp_calls x y _) hH hg hab hb (by omega)).mono ?_
  rintro e w' ⟨rfl, n, os, hx⟩
  obtain ⟨h1, h2⟩ := insertionSort_holds (lt := ltR) (swoKey rowKey) d a b hab hb
  exact ⟨rfl, n, _, os, hx, h1, h2⟩
set_option maxRecDepth 100000 in
set_option maxHeartbeats 8000000 in
theorem stableL_calls (g cap : Nat) (d : Array S45) (w : World) (hH : HoldsK encR 3 w g 0 d) (hg : g < w.heap.size) (hn : d.size ≤ 300) :
    Calls Tryz.prog 92 #[.slice (some ⟨g, 0, none⟩) d.size cap, .int .i64 (d.size : Int), .func (.func 70) #[] #[]] w fun e w' => e = .returned (.tuple #[]) ∧ ∃ n d' os, w' = sortWorldK encR 3 w g 0 n d' os ∧ PermIn 0 d.size d d' ∧ SortedIn ltR 0 d.size d' := by
  have HST : Hid (w = sortWorldK encR 3 w g 0 0 d #[]) := by show w = _; unfold sortWorldK; rw [grow_empty]; exact (putRowK_self encR 3 w g 0 d hH).symm
  have hins : ∀ (n : Nat) (dk : Array S45) (os : Array Obj) (a b : Nat), PermIn 0 d.size d dk → a ≤ b → b ≤ d.size → Calls Tryz.prog 111 #[.slice (some ⟨g, 0, none⟩) d.size cap, .int .i64 (a : Int), .int .i64 (b : Int), .func (.func 70) #[] #[]] (sortWorldK encR 3 w g 0 n dk os) fun e w' => e = .returned (.tuple #[]) ∧ ∃ n' d' os', w' = sortWorldK encR 3 w g 0 n' d' os' ∧ PermIn a b dk d' ∧ SortedIn ltR a b d' := by
    intro n dk os a b hp h1 h2
    have hs := hp.1
    have hC := ins_calls g cap a b dk (sortWorldK encR 3 w g 0 n dk os) (holdsK_sortWorldK_c encR 3 w g 0 d dk n os hH hg hs) (Nat.lt_of_lt_of_le hg (size_sortWorldK_c encR 3 w g 0 n dk os)) h1 (by omega) (by omega)
    rw [hs] at hC
    refine hC.mono ?_
    rintro e w' ⟨rfl, n', d', os', rfl, h3, h4⟩
    exact ⟨rfl, _, d', _, sw_trans g d dk d' n n' os os' w hs h3.1 hH hg, h3, h4⟩
  have hsym : ∀ (n : Nat) (dk : Array S45) (os : Array Obj) (a m b : Nat), PermIn 0 d.size d dk → a < m → m < b → b ≤ d.size → SortedIn ltR a m dk → SortedIn ltR m b dk → Calls Tryz.prog 112 #[.slice (some ⟨g, 0, none⟩) d.size cap, .int .i64 (a : Int), .int .i64 (m : Int), .int .i64 (b : Int), .func (.func 70) #[] #[]] (sortWorldK encR 3 w g 0 n dk os) fun e w' => e = .returned (.tuple #[]) ∧ ∃ n' d' os', w' = sortWorldK encR 3 w g 0 n' d' os' ∧ PermIn a b dk d' ∧ SortedIn ltR a b d' := by
    intro n dk os a m b hp h1 h2 h3 s1 s2
    have hs := hp.1
    refine (sym_all g cap d.size d.size (by omega) a m b dk (sortWorldK encR 3 w g 0 n dk os) hs (holdsK_sortWorldK_c encR 3 w g 0 d dk n os hH hg hs) (Nat.lt_of_lt_of_le hg (size_sortWorldK_c encR 3 w g 0 n dk os)) h1 h2 h3 (by omega) s1 s2).mono ?_
    rintro e w' ⟨rfl, n', d', os', rfl, h3, h4⟩
    exact ⟨rfl, _, d', _, sw_trans g d dk d' n n' os os' w hs h3.1 hH hg, h3, h4⟩
  have HI := Aside0.mk hins
  have HM := Aside0.mk hsym
  clear hins hsym hH hg
  go_enter Tryz.func92, Tryz.ntmps92
  go_wp2_with fail
  go_loopg [7, 8] d.size (fun g1 va vb wr => ∃ (u a b n : Nat) (dk : Array S45) (os : Array Obj), va = .int .i64 (a : Int) ∧ vb = .int .i64 (b : Int) ∧ (b ≤ a + 20 ∧ a + 20 ≤ b) ∧ a ≤ d.size ∧ d.size - a ≤ g1 ∧ wr = sortWorldK encR 3 w g 0 n dk os ∧ Hid (a = u * 20 ∧ PermIn 0 d.size d dk ∧ ∀ i j, i < j → j < a → i / 20 = j / 20 → ltR dk[j]! dk[i]! = false))
  case atStart => exact ⟨0, 0, 20, 0, d, #[], rfl, rfl, ⟨by omega, by omega⟩, Nat.zero_le _, by omega, HST.out, ⟨rfl, permIn_refl _ _ _, fun i j _ h2 => absurd h2 (by omega)⟩⟩
  case round =>
    obtain ⟨u, a, b, n, dk, os, rfl, rfl, hba, had, hg1, rfl, hK⟩ := hrel
    have HK : Hid _ := hK
    clear hK
    by_cases hlt : b ≤ d.size
    · have hltz : (b : Int) ≤ (d.size : Int) := by omega
      obtain ⟨b2, hb2⟩ : ∃ b2, b2 = b + 20 := ⟨_, rfl⟩
      have e1 : IntKind.i64.wrap ((b : Int) + 20) = (b2 : Int) := by rw [IntKind.wrap_i64]; omega
      have z1 : (b : Int) + 20 = (b2 : Int) := by omega
      have w1 : IntKind.i64.wrap (b2 : Int) = (b2 : Int) := by rw [IntKind.wrap_i64]; omega
      have hb3 : b2 ≤ b + 20 ∧ b + 20 ≤ b2 := by omega
      clear hb2
      have hC := HI.out n dk os a b HK.out.2.1 (by omega) hlt
      have HC := Aside0.mk hC
      clear hC
      generalize sortWorldK encR 3 w g 0 n dk os = wq at HC ⊢
      go_wp2_with fail
      refine HC.out.mono ?_
      rintro e w1 ⟨rfl, n', d', os', hx, hp, ho⟩
      have HX := Aside0.mk (And.intro hx (And.intro hp ho))
      clear hx hp ho HC
      go_wp2
      go_roundg (d.size - b)
      case measure => omega
      case rel => exact ⟨u + 1, b, b2, n', d', os', rfl, rfl, hb3, hlt, Nat.le_refl _, HX.out.1, ⟨by have := HK.out.1; omega, permIn_trans _ _ _ _ _ HK.out.2.1 (permIn_mono _ _ _ _ _ _ (Nat.zero_le _) hlt (by have q_ := HK.out.2.1.1; omega) HX.out.2.1), first_step d.size a b u dk d' HK.out.1 hlt HK.out.2.2 HX.out.2.1 HX.out.2.2⟩⟩
    · have hltz : ¬ (b : Int) ≤ (d.size : Int) := by omega
      have hC := HI.out n dk os a d.size HK.out.2.1 had (Nat.le_refl _)
      have HC := Aside0.mk hC
      clear hC
      generalize sortWorldK encR 3 w g 0 n dk os = wq at HC ⊢
      go_wp2_with fail
      refine HC.out.mono ?_
      rintro e w1 ⟨rfl, n', d', os', hx, hp, ho⟩
      have HX : Hid (PermIn 0 d.size d d' ∧ Runs ltR 20 d.size d') := ⟨permIn_trans _ _ _ _ _ HK.out.2.1 (permIn_mono _ _ _ _ _ _ (Nat.zero_le _) (Nat.le_refl _) (by have q_ := HK.out.2.1.1; omega) hp), first_step d.size a d.size u dk d' HK.out.1 (Nat.le_refl _) HK.out.2.2 hp ho⟩
      have HW := Aside0.mk hx
      clear hx hp ho HC
      go_wp2_with fail
      go_loopg [6] 400 (fun g2 vs wr2 => ∃ (s n2 : Nat) (d2 : Array S45) (os2 : Array Obj), vs = .int .i64 (s : Int) ∧ (20 ≤ s ∧ s ≤ 320) ∧ 400 - s ≤ g2 ∧ wr2 = sortWorldK encR 3 w g 0 n2 d2 os2 ∧ Hid ((Size4 s ∨ s = 320) ∧ PermIn 0 d.size d d2 ∧ Runs ltR s d.size d2))
      case atStart => exact ⟨20, n', d', os', rfl, ⟨by omega, by omega⟩, by omega, HW.out, ⟨.inl (.inl rfl), HX.out⟩⟩
      case round =>
        obtain ⟨s, n2, d2, os2, rfl, hs, hg2, rfl, hK2⟩ := hrel
        have HK2 : Hid _ := hK2
        clear hK2
        by_cases hsn : s < d.size
        · have hsnz : (s : Int) < (d.size : Int) := by omega
          have hs4 : Hid (Size4 s) := HK2.out.1.resolve_right (by omega)
          have hs6 : s ≤ 160 := by rcases hs4.out with h | h | h | h <;> omega
          have hnext : Hid (Size4 (2 * s) ∨ 2 * s = 320) := by
            show Size4 (2 * s) ∨ 2 * s = 320
            rcases hs4.out with rfl | rfl | rfl | rfl
            · exact .inl (.inr (.inl rfl))
            · exact .inl (.inr (.inr (.inl rfl)))
            · exact .inl (.inr (.inr (.inr rfl)))
            · exact .inr rfl
          obtain ⟨s2, hs2⟩ : ∃ s2, s2 = 2 * s := ⟨_, rfl⟩
          have HS2 : Hid (s2 = 2 * s) := hs2
          have hs3 : s2 ≤ 2 * s ∧ 2 * s ≤ s2 := by omega
          have e1 : IntKind.i64.wrap (2 * (s : Int)) = (s2 : Int) := by rw [IntKind.wrap_i64]; omega
          have z1 : 2 * (s : Int) = (s2 : Int) := by omega
          have e2 : IntKind.i64.wrap ((s : Int) * 2) = (s2 : Int) := by rw [IntKind.wrap_i64]; omega
          have z2 : (s : Int) * 2 = (s2 : Int) := by omega
          have w2 : IntKind.i64.wrap (s2 : Int) = (s2 : Int) := by rw [IntKind.wrap_i64]; omega
          clear hs2
          go_wp2_with fail
          go_loopg [7, 8] d.size (fun g3 va vb wr3 => ∃ (u a b n3 : Nat) (d3 : Array S45) (os3 : Array Obj), va = .int .i64 (a : Int) ∧ vb = .int .i64 (b : Int) ∧ (b ≤ a + s2 ∧ a + s2 ≤ b) ∧ a ≤ d.size ∧ d.size - a ≤ g3 ∧ wr3 = sortWorldK encR 3 w g 0 n3 d3 os3 ∧ Hid (a = u * (2 * s) ∧ PermIn 0 d.size d d3 ∧ Mid ltR s d.size a d3))
          case atStart => exact ⟨0, 0, s2, n2, d2, os2, rfl, rfl, ⟨by omega, by omega⟩, Nat.zero_le _, by omega, rfl, ⟨by omega, HK2.out.2.1, mid_start s d.size d2 HK2.out.2.2⟩⟩
          case round =>
            obtain ⟨u, a, b, n3, d3, os3, rfl, rfl, hba3, had3, hg3, rfl, hK3⟩ := hrel
            have HK3 : Hid _ := hK3
            clear hK3
            have R := mid_runs s d.size a u d3 hs4.out HK3.out.1 HK3.out.2.2
            obtain ⟨M, hM⟩ : ∃ M, M = a + s := ⟨_, rfl⟩
            have hM1 : M ≤ a + s ∧ a + s ≤ M := by omega
            have HMM : Hid (M = a + s) := hM
            have e3 : IntKind.i64.wrap ((a : Int) + (s : Int)) = (M : Int) := by rw [IntKind.wrap_i64]; omega
            have z3 : (a : Int) + (s : Int) = (M : Int) := by omega
            have w3 : IntKind.i64.wrap (M : Int) = (M : Int) := by rw [IntKind.wrap_i64]; omega
            clear hM
            by_cases hlt2 : b ≤ d.size
            · have hltz2 : (b : Int) ≤ (d.size : Int) := by omega
              obtain ⟨b2, hb2⟩ : ∃ b2, b2 = b + s2 := ⟨_, rfl⟩
              have e4 : IntKind.i64.wrap ((b : Int) + (s2 : Int)) = (b2 : Int) := by rw [IntKind.wrap_i64]; omega
              have z4 : (b : Int) + (s2 : Int) = (b2 : Int) := by omega
              have w4 : IntKind.i64.wrap (b2 : Int) = (b2 : Int) := by rw [IntKind.wrap_i64]; omega
              have hb3 : b2 ≤ b + s2 ∧ b + s2 ≤ b2 := by omega
              clear hb2
              have hC := HM.out n3 d3 os3 a M b HK3.out.2.1 (by omega) (by omega) hlt2 (R.1 M (by omega) (by omega)) (by have h_ := R.2 b hlt2 (by omega); rw [← HMM.out] at h_; exact h_)
              have HC := Aside0.mk hC
              clear hC R
              generalize sortWorldK encR 3 w g 0 n3 d3 os3 = wq at HC ⊢
              go_wp2_with fail
              refine HC.out.mono ?_
              rintro e w1 ⟨rfl, n', d', os', hx, hp, ho⟩
              have HX := Aside0.mk (And.intro hx (And.intro hp ho))
              clear hx hp ho HC
              go_wp2
              go_roundg (d.size - b)
              case measure => omega
              case rel => exact ⟨u + 1, b, b2, n', d', os', rfl, rfl, hb3, hlt2, Nat.le_refl _, HX.out.1, ⟨by rw [Nat.add_mul, ← HK3.out.1, Nat.one_mul]; omega, permIn_trans _ _ _ _ _ HK3.out.2.1 (permIn_mono _ _ _ _ _ _ (Nat.zero_le _) hlt2 (by have q_ := HK3.out.2.1.1; omega) HX.out.2.1), mid_step s d.size a b u d3 d' hs4.out HK3.out.1 (by omega) hlt2 HK3.out.2.2 HX.out.2.1 HX.out.2.2⟩⟩
            · have hltz2 : ¬ (b : Int) ≤ (d.size : Int) := by omega
              by_cases hm : M < d.size
              · have hmz : (M : Int) < (d.size : Int) := by omega
                have hC := HM.out n3 d3 os3 a M d.size HK3.out.2.1 (by omega) hm (Nat.le_refl _) (R.1 M (by omega) (by omega)) (by have h_ := R.2 d.size (Nat.le_refl _) (by omega); rw [← HMM.out] at h_; exact h_)
                have HC := Aside0.mk hC
                clear hC R
                generalize sortWorldK encR 3 w g 0 n3 d3 os3 = wq at HC ⊢
                go_wp2_with fail
                refine HC.out.mono ?_
                rintro e w1 ⟨rfl, n', d', os', hx, hp, ho⟩
                have HX := Aside0.mk (And.intro hx (And.intro hp ho))
                clear hx hp ho HC
                go_wp2
                go_roundg (400 - s2)
                case measure => omega
                case rel => exact ⟨s2, n', d', os', rfl, ⟨by omega, by omega⟩, Nat.le_refl _, HX.out.1, ⟨by rw [HS2.out]; exact hnext.out, permIn_trans _ _ _ _ _ HK3.out.2.1 (permIn_mono _ _ _ _ _ _ (Nat.zero_le _) (Nat.le_refl _) (by have q_ := HK3.out.2.1.1; omega) HX.out.2.1), by rw [HS2.out]; exact mid_last s d.size a u d3 d' hs4.out HK3.out.1 (by omega) HK3.out.2.2 HX.out.2.1 HX.out.2.2⟩⟩
              · have hmz : ¬ (M : Int) < (d.size : Int) := by omega
                clear R
                go_wp2
                go_roundg (400 - s2)
                case measure => omega
                case rel => exact ⟨s2, n3, d3, os3, rfl, ⟨by omega, by omega⟩, Nat.le_refl _, rfl, ⟨by rw [HS2.out]; exact hnext.out, HK3.out.2.1, by rw [HS2.out]; exact mid_short s d.size a u d3 hs4.out HK3.out.1 (by omega) HK3.out.2.2⟩⟩
        · have hsnz : ¬ (s : Int) < (d.size : Int) := by omega
          go_wp2
          go_end0
          first
          | exact ⟨rfl, n2, d2, os2, rfl, HK2.out.2.1, runs_all s d.size d2 (by omega) HK2.out.2.2⟩
          | exact ⟨rfl, n2, d2, ⟨os2, rfl⟩, HK2.out.2.1, runs_all s d.size d2 (by omega) HK2.out.2.2⟩
end Go.Proofs.YtfijhbfdkcajjaaGreatDoor.Pr
