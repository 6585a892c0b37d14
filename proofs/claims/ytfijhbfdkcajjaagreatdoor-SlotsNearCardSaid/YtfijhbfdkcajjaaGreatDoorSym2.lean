/- The contract of slices.symMergeCmpFunc at rows: the general merge. -/
import Derived.Test.YtfijhbfdkcajjaaGreatDoorSym
import Derived.Deep.DeepCutAuto
import Derived.Deep.CutRange
import Derived.Deep.LoopGhost
namespace Go.Proofs.YtfijhbfdkcajjaaGreatDoor.Pr
open Go.RowKit Go.Proofs.YtfijhbfdkcajjaaGreatDoorW.PrintWords Go.Proofs.YtfijhbfdkcajjaaGreatDoorW.PrintLast Go.Proofs.YtfijhbfdkcajjaaGreatDoorW.PrintMore Go.SortKey Go.Shelf Go.Sort Go.Lib Go.SymSort
set_option linter.unusedVariables false
set_option linter.unusedSimpArgs false
theorem turned_id (d : Array S45) (s m e : Nat) (h1 : s ≤ m) (h2 : m ≤ e) (h : ¬ (s < m ∧ m < e)) : ∀ k, d[k]! = turned d s m e k := by
  intro k
  unfold turned
  by_cases c : s < m
  · obtain rfl : m = e := by omega
    rw [if_neg (by omega)]
    by_cases c2 : s + (m - m) ≤ k ∧ k < m
    · rw [if_pos c2]; congr 1; omega
    · rw [if_neg c2]
  · obtain rfl : s = m := by omega
    by_cases c2 : s ≤ k ∧ k < s + (e - s)
    · rw [if_pos c2]; congr 1; omega
    · rw [if_neg c2, if_neg (by omega)]
/-- The contract of a merge, of a size at most N. -/
def SymOk (N g cap sz : Nat) : Prop := ∀ (a m b : Nat) (d : Array S45) (w : World), d.size = sz → HoldsK encR 3 w g 0 d → g < w.heap.size → a < m → m < b → b ≤ sz → b - a ≤ N → SortedIn ltR a m d → SortedIn ltR m b d →
    Calls Tryz.prog 112 #[.slice (some ⟨g, 0, none⟩) sz cap, .int .i64 (a : Int), .int .i64 (m : Int), .int .i64 (b : Int), .func (.func 70) #[] #[]] w fun e w' => e = .returned (.tuple #[]) ∧ ∃ n d' os, w' = sortWorldK encR 3 w g 0 n d' os ∧ PermIn a b d d' ∧ SortedIn ltR a b d'
set_option maxRecDepth 100000 in
set_option maxHeartbeats 8000000 in
theorem sym_main (N g cap : Nat) (a m b : Nat) (d : Array S45) (w : World) (hH : HoldsK encR 3 w g 0 d) (hg : g < w.heap.size) (ham : a + 1 < m) (hmb : m + 1 < b) (hb : b ≤ d.size) (hN : b - a ≤ N + 1) (hd : d.size ≤ 100000) (hs1 : SortedIn ltR a m d) (hs2 : SortedIn ltR m b d) (ih : SymOk N g cap d.size) :
    Calls Tryz.prog 112 #[.slice (some ⟨g, 0, none⟩) d.size cap, .int .i64 (a : Int), .int .i64 (m : Int), .int .i64 (b : Int), .func (.func 70) #[] #[]] w fun e w' => e = .returned (.tuple #[]) ∧ ∃ n d' os, w' = sortWorldK encR 3 w g 0 n d' os ∧ PermIn a b d d' ∧ SortedIn ltR a b d' := by
  have eg : ∀ args w, (callFunc 70 args).run Tryz.prog w = .ok (.enter 70 args) w := enters_of Tryz.func70 (by kernel_rfl) rfl
  have mixed : Tryz.prog.follows Departure.mixedOrders = true := by kernel_rfl
  have HST : Hid (w = sortWorldK encR 3 w g 0 0 d #[]) := by show w = _; unfold sortWorldK; rw [grow_empty]; exact (putRowK_self encR 3 w g 0 d hH).symm
  have HH : Hid (HoldsK encR 3 w g 0 d) := hH
  have HG : Hid (g < w.heap.size) := hg
  have HS : Hid (SortedIn ltR a m d ∧ SortedIn ltR m b d) := ⟨hs1, hs2⟩
  have IH : Hid (SymOk N g cap d.size) := ih
  clear hH hg hs1 hs2 ih
  obtain ⟨mid, hmid, f1, f2, f3, f4, f4u⟩ := half a b (by omega)
  obtain ⟨lo, hlo0⟩ : ∃ lo, lo = if mid < m then mid + m - b else a := ⟨_, rfl⟩
  obtain ⟨hi, hhi0⟩ : ∃ hi, hi = if mid < m then mid else m := ⟨_, rfl⟩
  have hlo1 := hlo0
  have hhi1 := hhi0
  have bl : lo ≤ hi ∧ hi ≤ mid ∧ hi ≤ m ∧ a ≤ lo ∧ mid + m - 1 - lo < b ∧ m ≤ mid + m - hi := by
    by_cases c : mid < m
    · rw [if_pos c] at hlo1 hhi1; omega
    · rw [if_neg c] at hlo1 hhi1; omega
  have hlo : Hid (lo = if mid < m then mid + m - b else a) := hlo0
  have hhi : Hid (hi = if mid < m then mid else m) := hhi0
  clear hlo0 hhi0 hlo1 hhi1
  have e1 : IntKind.i64.wrap ((m : Int) - (a : Int)) = ((m - a : Nat) : Int) := by rw [IntKind.wrap_i64]; omega
  have e2 : ¬ (((m - a : Nat) : Int) = 1) := by omega
  have e2b : (((m - a : Nat) : Int) == 1) = false := by simpa using e2
  have e3 : IntKind.i64.wrap ((b : Int) - (m : Int)) = ((b - m : Nat) : Int) := by rw [IntKind.wrap_i64]; omega
  have e4 : ¬ (((b - m : Nat) : Int) = 1) := by omega
  have e4b : (((b - m : Nat) : Int) == 1) = false := by simpa using e4
  have e5 : IntKind.i64.wrap ((mid : Int) + (m : Int)) = (mid : Int) + (m : Int) := by rw [IntKind.wrap_i64]; omega
  obtain ⟨P, hP⟩ : ∃ P, P + 1 = mid + m := ⟨mid + m - 1, by omega⟩
  have hP1 : P + 1 ≤ mid + m ∧ mid + m ≤ P + 1 := by omega
  clear hP
  have e6 : IntKind.i64.wrap ((mid : Int) + (m : Int) - 1) = (P : Int) := by rw [IntKind.wrap_i64]; omega
  have z6 : (mid : Int) + (m : Int) - 1 = (P : Int) := by omega
  go_enter Tryz.func112, Tryz.ntmps112
  go_upto_if 140 with fail
  go_cut [20, 21] (fun v20 v21 wc => v20 = .int .i64 (lo : Int) ∧ v21 = .int .i64 (hi : Int) ∧ w = wc)
  case first =>
    by_cases c : mid < m
    · have cz : (mid : Int) < (m : Int) := by omega
      have h1 := hlo.out
      have h2 := hhi.out
      rw [if_pos c] at h1 h2
      have e7 : IntKind.i64.wrap ((mid : Int) + (m : Int) - (b : Int)) = (lo : Int) := by rw [IntKind.wrap_i64]; omega
      have z7 : (mid : Int) + (m : Int) - (b : Int) = (lo : Int) := by omega
      have H2 : Hid _ := h2
      clear h1 h2
      go_wp2
      go_meet
      case rel => exact ⟨rfl, by rw [H2.out], rfl⟩
    · have cz : ¬ (mid : Int) < (m : Int) := by omega
      go_wp2
      go_meet
      case rel =>
        have h1 := hlo.out
        have h2 := hhi.out
        rw [if_neg c] at h1 h2
        exact ⟨by rw [h1], by rw [h2], rfl⟩
  case rest =>
    obtain ⟨rfl, rfl, rfl⟩ := hcut
    go_wp2_with fail
    go_loopg [20, 21] b (fun g1 vs vr wr => ∃ (s r n : Nat) (os : Array Obj), vs = .int .i64 s ∧ vr = .int .i64 r ∧ s ≤ r ∧ r ≤ hi ∧ lo ≤ s ∧ r - s ≤ g1 ∧ wr = sortWorldK encR 3 w g 0 n d os ∧ Hid (SymInv ltR d (mid + m - 1) lo hi s r))
    case atStart => exact ⟨lo, hi, 0, #[], rfl, rfl, bl.1, Nat.le_refl _, Nat.le_refl _, by omega, HST.out, ⟨Nat.le_refl _, bl.1, Nat.le_refl _, fun c h1 h2 => absurd h2 (by omega), fun c h1 h2 => absurd h2 (by omega)⟩⟩
    case round =>
      obtain ⟨s, r, n, os, rfl, rfl, hsr, hrh, hls, hg1, rfl, hI⟩ := hrel
      have HI : Hid _ := hI
      clear hI
      by_cases hlt : s < r
      · have hltz : (s : Int) < (r : Int) := by omega
        obtain ⟨h, hh, k1, k2, k4, k5, k6⟩ := half s r (by omega)
        have hb1 : s ≤ h ∧ h < r := by omega
        clear hh
        obtain ⟨Q, hQ0⟩ : ∃ Q, mid + m - 1 - h = Q := ⟨_, rfl⟩
        have hQ1 : Q + h + 1 ≤ mid + m ∧ mid + m ≤ Q + h + 1 := by omega
        have hQ : Hid (mid + m - 1 - h = Q) := hQ0
        clear hQ0
        have f8 : IntKind.i64.wrap ((P : Int) - (h : Int)) = (Q : Int) := by rw [IntKind.wrap_i64]; omega
        have z8 : (P : Int) - (h : Int) = (Q : Int) := by omega
        have w8 : IntKind.i64.wrap (Q : Int) = (Q : Int) := by rw [IntKind.wrap_i64]; omega
        have p0 : (0 : Int) ≤ (h : Int) := by omega
        have p1 : (h : Int) < (d.size : Int) := by omega
        have p2 : (0 : Int) ≤ (Q : Int) := by omega
        have p3 : (Q : Int) < (d.size : Int) := by omega
        have f9 : IntKind.i64.wrap ((h : Int) + 1) = ((h + 1 : Nat) : Int) := by rw [IntKind.wrap_i64]; omega
        obtain ⟨k3, cI, cJ, zE, hcI, hcJ, lI, lJ, hcg, hcls⟩ := cmp_eqs g d d n os w HH.out HG.out rfl Q h (by omega) (by omega)
        have CLS : Hid _ := hcls
        clear hcls
        generalize hwq : sortWorldK encR 3 w g 0 n d os = wq at lI lJ hcg CLS ⊢
        clear hwq
        by_cases hlv : keyCmp rowKey d[Q]! d[h]! < 0
        · have hb1_ : decide (keyCmp rowKey d[Q]! d[h]! < 0) = true := decide_eq_true hlv
          have hb2_ : decide (0 ≤ keyCmp rowKey d[Q]! d[h]!) = false := decide_eq_false (by omega)
          have HLV : Hid (ltR d[Q]! d[h]! = true) := decide_eq_true hlv
          go_wp2_with fail
          have aE := Tryz.isAgg45
          generalize (45 : Nat) = T at zE aE ⊢
          go_quiet_grown (first | (go_at_fn 70; refine Calls.grown_of (hcg _ _)))
          go_wp2
          go_roundg (h - s)
          case measure => omega
          case rel => exact ⟨s, h, _, _, rfl, rfl, hb1.1, by omega, hls, Nat.le_refl _, CLS.out nq osq, sym_yes (swoKey rowKey) d a m b mid lo hi s r h HS.out.1 HS.out.2 HI.out hb1.1 hb1.2 bl.2.2.2.1 bl.2.2.1 (by omega) bl.2.2.2.2.1 (by rw [hQ.out]; exact HLV.out)⟩
        · have hb1_ : decide (keyCmp rowKey d[Q]! d[h]! < 0) = false := decide_eq_false hlv
          have hb2_ : decide (0 ≤ keyCmp rowKey d[Q]! d[h]!) = true := decide_eq_true (by omega)
          have HLV : Hid (ltR d[Q]! d[h]! = false) := decide_eq_false hlv
          go_wp2_with fail
          have aE := Tryz.isAgg45
          generalize (45 : Nat) = T at zE aE ⊢
          go_quiet_grown (first | (go_at_fn 70; refine Calls.grown_of (hcg _ _)))
          go_wp2
          go_roundg (r - (h + 1))
          case measure => omega
          case rel => exact ⟨h + 1, r, _, _, by go_num, rfl, by omega, hrh, by omega, Nat.le_refl _, CLS.out nq osq, sym_no (swoKey rowKey) d a m b mid lo hi s r h HS.out.1 HS.out.2 HI.out hb1.1 hb1.2 bl.2.2.2.1 bl.2.2.1 (by omega) bl.2.2.2.2.1 (by rw [hQ.out]; exact HLV.out)⟩
      · have hltz : ¬ (s : Int) < (r : Int) := by omega
        obtain rfl : s = r := by omega
        obtain ⟨E, hE0⟩ : ∃ E, E = mid + m - s := ⟨_, rfl⟩
        have bd0 : s ≤ mid ∧ s ≤ m := by omega
        have hE1 : E + s ≤ mid + m ∧ mid + m ≤ E + s := by omega
        have hE : Hid (E = mid + m - s) := hE0
        clear hE0
        have e8 : IntKind.i64.wrap ((mid : Int) + (m : Int) - (s : Int)) = (E : Int) := by rw [IntKind.wrap_i64]; omega
        have z8 : (mid : Int) + (m : Int) - (s : Int) = (E : Int) := by omega
        have w8 : IntKind.i64.wrap (E : Int) = (E : Int) := by rw [IntKind.wrap_i64]; omega
        have bd : a ≤ s ∧ s ≤ mid ∧ s ≤ m ∧ m ≤ E ∧ mid ≤ E ∧ E ≤ b := by
          have h1 := hlo.out
          have h2 := hhi.out
          by_cases c : mid < m
          · rw [if_pos c] at h1 h2; omega
          · rw [if_neg c] at h1 h2; omega
        obtain ⟨W0, hW0⟩ : ∃ W, W = sortWorldK encR 3 w g 0 n d os := ⟨_, rfl⟩
        rw [← hW0]
        have HW0 : Hid _ := hW0
        clear hW0
        go_upto_region 39 with fail
        go_cut [24, 185] from 178 to 185 (fun v24 vb wc => v24 = .int .i64 (E : Int) ∧ vb = .bool (decide (s < m ∧ m < E)) ∧ W0 = wc)
        case first =>
          by_cases c1 : s < m
          · have c1z : (s : Int) < (m : Int) := by omega
            by_cases c2 : m < E
            · have c2z : (m : Int) < (E : Int) := by omega
              go_wp2
              go_meet
              case rel => exact ⟨rfl, by simp [c1, c2], rfl⟩
            · have c2z : ¬ (m : Int) < (E : Int) := by omega
              go_wp2
              go_meet
              case rel => exact ⟨rfl, by simp [c1, c2], rfl⟩
          · have c1z : ¬ (s : Int) < (m : Int) := by omega
            go_wp2
            go_meet
            case rel => exact ⟨rfl, by simp [c1], rfl⟩
        case rest =>
          obtain ⟨rfl, rfl, rfl⟩ := hcut
          go_upto_if 185 with fail
          go_cut [24] from 185 to 191 (fun v24 wc => v24 = .int .i64 (E : Int) ∧ ∃ (n1 : Nat) (t : Array S45) (os1 : Array Obj), wc = sortWorldK encR 3 w g 0 n1 t os1 ∧ Hid (PermIn a b d t ∧ ∀ k, t[k]! = turned d s m E k))
          case first =>
            by_cases c : s < m ∧ m < E
            · have cb : decide (s < m ∧ m < E) = true := decide_eq_true c
              have hC := rotate_calls g cap s m E (.func (.func 70) #[] #[]) d W0 (HW0.out ▸ holdsK_sortWorldK_c encR 3 w g 0 d d n os HH.out HG.out rfl) (HW0.out ▸ Nat.lt_of_lt_of_le HG.out (size_sortWorldK_c encR 3 w g 0 n d os)) c.1 c.2 (by omega) hd
              have HC := Aside0.mk hC
              clear hC
              rw [cb]
              go_wp2_with fail
              refine HC.out.mono ?_
              rintro e w1 ⟨rfl, n', d', os', hx, hp, ht⟩
              have hx2 := hx
              rw [HW0.out, sw_trans g d d d' n n' os os' w rfl hp.1 HH.out HG.out] at hx2
              have HX := Aside0.mk (And.intro hx2 (And.intro hp ht))
              clear hx hx2 hp ht HC
              go_wp2
              go_meet
              case rel => exact ⟨rfl, _, d', _, HX.out.1, ⟨permIn_mono _ _ _ _ _ _ bd.1 bd.2.2.2.2.2 hb HX.out.2.1, HX.out.2.2⟩⟩
            · have cb : decide (s < m ∧ m < E) = false := decide_eq_false c
              rw [cb]
              go_wp2
              go_meet
              case rel => exact ⟨rfl, n, d, os, HW0.out, ⟨permIn_refl _ _ _, turned_id d s m E bd.2.2.1 bd.2.2.2.1 c⟩⟩
          case rest =>
            obtain ⟨rfl, n1, t, os1, rfl, hT⟩ := hcut
            have hts : t.size = d.size := hT.out.1.1
            have SP := sym_parts (swoKey rowKey) d a m b mid lo hi s (by omega) (by omega) (show mid = (a + b) / 2 by omega) hlo.out hhi.out HS.out.1 HS.out.2 HI.out (by omega) t (by rw [← hE.out]; exact hT.out.2)
            rw [← hE.out] at SP
            have HT : Hid _ := hT
            have HSP : Hid _ := SP
            clear hT SP
            obtain ⟨W1, hW1⟩ : ∃ W, W = sortWorldK encR 3 w g 0 n1 t os1 := ⟨_, rfl⟩
            rw [← hW1]
            have HW1 : Hid _ := hW1
            clear hW1
            go_upto_region 41 with fail
            go_cut [24, 199] from 192 to 199 (fun v24 vb wc => v24 = .int .i64 (E : Int) ∧ vb = .bool (decide (a < s ∧ s < mid)) ∧ W1 = wc)
            case first =>
              by_cases c1 : a < s
              · have c1z : (a : Int) < (s : Int) := by omega
                by_cases c2 : s < mid
                · have c2z : (s : Int) < (mid : Int) := by omega
                  go_wp2
                  go_meet
                  case rel => exact ⟨rfl, by simp [c1, c2], rfl⟩
                · have c2z : ¬ (s : Int) < (mid : Int) := by omega
                  go_wp2
                  go_meet
                  case rel => exact ⟨rfl, by simp [c1, c2], rfl⟩
              · have c1z : ¬ (a : Int) < (s : Int) := by omega
                go_wp2
                go_meet
                case rel => exact ⟨rfl, by simp [c1], rfl⟩
            case rest =>
              obtain ⟨rfl, rfl, rfl⟩ := hcut
              go_upto_if 199 with fail
              go_cut [24] from 199 to 205 (fun v24 wc => v24 = .int .i64 (E : Int) ∧ ∃ (n2 : Nat) (t1 : Array S45) (os2 : Array Obj), wc = sortWorldK encR 3 w g 0 n2 t1 os2 ∧ Hid (PermIn a mid t t1 ∧ SortedIn ltR a mid t1))
              case first =>
                by_cases c : a < s ∧ s < mid
                · have cb : decide (a < s ∧ s < mid) = true := decide_eq_true c
                  have hC := IH.out a s mid t W1 hts (HW1.out ▸ holdsK_sortWorldK_c encR 3 w g 0 d t n1 os1 HH.out HG.out hts) (HW1.out ▸ Nat.lt_of_lt_of_le HG.out (size_sortWorldK_c encR 3 w g 0 n1 t os1)) c.1 c.2 (by omega) (by omega) HSP.out.2.1 HSP.out.2.2.1
                  have HC := Aside0.mk hC
                  clear hC
                  rw [cb]
                  go_wp2_with fail
                  refine HC.out.mono ?_
                  rintro e w1 ⟨rfl, n', d', os', hx, hp, ht⟩
                  have hx2 := hx
                  rw [HW1.out, sw_trans g d t d' n1 n' os1 os' w hts hp.1 HH.out HG.out] at hx2
                  have HX := Aside0.mk (And.intro hx2 (And.intro hp ht))
                  clear hx hx2 hp ht HC
                  go_wp2
                  go_meet
                  case rel => exact ⟨rfl, _, d', _, HX.out.1, HX.out.2⟩
                · have cb : decide (a < s ∧ s < mid) = false := decide_eq_false c
                  rw [cb]
                  have q : SortedIn ltR a mid t := by
                    by_cases c1 : a < s
                    · have h_ := HSP.out.2.1
                      rwa [show s = mid by omega] at h_
                    · have h_ := HSP.out.2.2.1
                      rwa [show s = a by omega] at h_
                  go_wp2
                  go_meet
                  case rel => exact ⟨rfl, n1, t, os1, HW1.out, ⟨permIn_refl _ _ _, q⟩⟩
              case rest =>
                obtain ⟨rfl, n2, t1, os2, rfl, hT1⟩ := hcut
                have hts1 : t1.size = d.size := hT1.out.1.1.trans hts
                have same1 : ∀ i, mid ≤ i → i < b → t1[i]! = t[i]! := fun i h1 h2 => hT1.out.1.2.1 i (by omega)
                have r1 := sorted_same mid E t t1 HSP.out.2.2.2.1 (fun i h1 h2 => same1 i h1 (by omega))
                have r2 := sorted_same E b t t1 HSP.out.2.2.2.2.1 (fun i h1 h2 => same1 i (by omega) h2)
                have pm1 : PermIn a b d t1 := permIn_trans _ _ _ _ _ HT.out.1 (permIn_mono _ _ _ _ _ _ (Nat.le_refl _) (by omega) (by omega) hT1.out.1)
                have fin : ∀ t2, PermIn mid b t1 t2 → SortedIn ltR mid b t2 → PermIn a b d t2 ∧ SortedIn ltR a b t2 := fun t2 h1 h2 => by
                  refine ⟨permIn_trans _ _ _ _ _ pm1 (permIn_mono _ _ _ _ _ _ (by omega) (Nat.le_refl _) (by omega) h1), ?_⟩
                  exact joined_sorted a mid b t2 (sorted_same a mid t1 t2 hT1.out.2 (fun i h3 h4 => h1.2.1 i (by omega))) h2 (perm_cross a mid b t t1 t2 (by omega) (by omega) (by omega) hT1.out.1 h1 HSP.out.2.2.2.2.2)
                have FIN : Hid _ := fin
                have RR : Hid _ := And.intro r1 r2
                clear hT1 fin pm1 same1 r1 r2
                obtain ⟨W2, hW2⟩ : ∃ W, W = sortWorldK encR 3 w g 0 n2 t1 os2 := ⟨_, rfl⟩
                rw [← hW2]
                have HW2 : Hid _ := hW2
                clear hW2
                go_upto_region 43 with fail
                go_cut [24, 213] from 206 to 213 (fun v24 vb wc => v24 = .int .i64 (E : Int) ∧ vb = .bool (decide (mid < E ∧ E < b)) ∧ W2 = wc)
                case first =>
                  by_cases c1 : mid < E
                  · have c1z : (mid : Int) < (E : Int) := by omega
                    by_cases c2 : E < b
                    · have c2z : (E : Int) < (b : Int) := by omega
                      go_wp2
                      go_meet
                      case rel => exact ⟨rfl, by simp [c1, c2], rfl⟩
                    · have c2z : ¬ (E : Int) < (b : Int) := by omega
                      go_wp2
                      go_meet
                      case rel => exact ⟨rfl, by simp [c1, c2], rfl⟩
                  · have c1z : ¬ (mid : Int) < (E : Int) := by omega
                    go_wp2
                    go_meet
                    case rel => exact ⟨rfl, by simp [c1], rfl⟩
                case rest =>
                  obtain ⟨rfl, rfl, rfl⟩ := hcut
                  by_cases c : mid < E ∧ E < b
                  · have cb : decide (mid < E ∧ E < b) = true := decide_eq_true c
                    have hC := IH.out mid E b t1 W2 hts1 (HW2.out ▸ holdsK_sortWorldK_c encR 3 w g 0 d t1 n2 os2 HH.out HG.out hts1) (HW2.out ▸ Nat.lt_of_lt_of_le HG.out (size_sortWorldK_c encR 3 w g 0 n2 t1 os2)) c.1 c.2 hb (by omega) RR.out.1 RR.out.2
                    have HC := Aside0.mk hC
                    clear hC
                    rw [cb]
                    go_wp2_with fail
                    refine HC.out.mono ?_
                    rintro e w1 ⟨rfl, n', d', os', hx, hp, ht⟩
                    have hx2 := hx
                    rw [HW2.out, sw_trans g d t1 d' n2 n' os2 os' w hts1 hp.1 HH.out HG.out] at hx2
                    have HX := Aside0.mk (And.intro hx2 (And.intro hp ht))
                    clear hx hx2 hp ht HC
                    go_wp2
                    go_end0
                    exact ⟨rfl, _, d', _, HX.out.1, FIN.out d' HX.out.2.1 HX.out.2.2⟩
                  · have cb : decide (mid < E ∧ E < b) = false := decide_eq_false c
                    rw [cb]
                    have q : SortedIn ltR mid b t1 := by
                      by_cases c1 : mid < E
                      · have h_ := RR.out.1
                        rwa [show E = b by omega] at h_
                      · have h_ := RR.out.2
                        rwa [show E = mid by omega] at h_
                    have q2 := FIN.out t1 (permIn_refl _ _ _) q
                    go_wp2
                    go_end0
                    first
                    | exact ⟨rfl, n2, t1, ⟨os2, HW2.out⟩, q2⟩
                    | exact ⟨rfl, n2, t1, os2, HW2.out, q2⟩
theorem sym_all (g cap : Nat) : ∀ (N sz : Nat), sz ≤ 100000 → SymOk N g cap sz
  | 0, sz, hsz => fun a m b d w _ _ _ h1 h2 _ h3 => absurd h3 (by omega)
  | N + 1, sz, hsz => fun a m b d w hd hH hg h1 h2 h3 h4 s1 s2 => by
    subst hd
    by_cases c1 : m = a + 1
    · refine sym_left1 g cap a m b c1 d w hH hg (by omega) h3 hsz (by rw [← c1]; exact s2)
    · by_cases c2 : b = m + 1
      · have q := sym_right1 g cap a m b c2 d w hH hg (by omega) (by omega) hsz s1
        rw [← c2] at q
        exact q
      · exact sym_main N g cap a m b d w hH hg (by omega) (by omega) h3 (by omega) hsz s1 s2 (sym_all g cap N d.size hsz)
end Go.Proofs.YtfijhbfdkcajjaaGreatDoor.Pr
