/- Walks: the statements BusyQuick, BusyEnough, BusyFixed. -/
import Derived.Test.YtlnpjelanheijaaW2
namespace Go.Proofs.Ytlnpjelanheijaa
open Go.RowKit

set_option maxRecDepth 100000 in
set_option maxHeartbeats 4000000 in
theorem lawQuick_any (A : Option Addr) (l : List Tk) (c : Nat) (n : Int) (w : World) (hs : Sl eT 3 w A l) (hm : l.length ≤ 9223372036854775807) (hn : -9223372036854775808 ≤ n) (hn' : n ≤ 9223372036854775807) :
    Calls Try.prog 6 #[.slice A l.length c, .int .i64 n] w fun e w' => e = .returned (.bool true) ∧ Below w.heap.size w w' := by
  have HF := Lib.hid (fun W => few_any A l.length c n W)
  cases hf : fewB l.length n
  · rw [hf] at HF
    go_enter Try.func6, Try.ntmps6
    go_wp2_with (first | (go_at_call 7; (with_reducible refine (HF.out _).mono ?_); rintro e w2 ⟨rfl, rfl⟩) | (go_at_call 8; (with_reducible refine (awake_any _).mono ?_); rintro e w3 ⟨rfl, hb⟩))
    go_ret
    exact ⟨rfl, hb⟩
  · rw [hf] at HF
    have hf2 := of_decide_eq_true hf
    have HQ := Lib.hid (fun W (hW : Sl eT 3 W A l) => quick_any A l c n W hW hm)
    have HA := Lib.hid (fun W (hW : Sl eT 3 W A l) => qAll_any A l c W hW hm)
    have hB := Below.refl w.heap.size w
    have hs1 := hs
    cases ha : allT l
    · rw [okN_a ha, Bool.false_and] at HQ
      rw [ha] at HA
      go_enter Try.func6, Try.ntmps6
      go_wp2_with (first | (go_at_call 7; (with_reducible refine (HF.out _).mono ?_); rintro e w2 ⟨rfl, rfl⟩) | (go_at_call 8; (with_reducible refine (awake_any _).mono ?_); rintro e w3 ⟨rfl, hb⟩; replace hB := bstep hB (Nat.le_refl _) hb; clear hb) | (go_at_call 12; (with_reducible refine (HA.out _ hs1).mono ?_); rintro e w5 ⟨rfl, hb⟩; replace hs1 := hs1.keep hb; replace hB := bstep hB (Nat.le_refl _) hb; clear hb) | (go_at_call 19; (with_reducible refine (HQ.out _ hs1).mono ?_); rintro e w6 ⟨rfl, hb⟩; replace hB := bstep hB (Nat.le_refl _) hb; clear hb))
      go_ret
      exact ⟨rfl, hB⟩
    · rw [ha] at HA
      by_cases h1 : n < 0
      · rw [okN_f (by omega), Bool.false_and] at HQ
        go_enter Try.func6, Try.ntmps6
        go_wp2_with (first | (go_at_call 7; (with_reducible refine (HF.out _).mono ?_); rintro e w2 ⟨rfl, rfl⟩) | (go_at_call 8; (with_reducible refine (awake_any _).mono ?_); rintro e w3 ⟨rfl, hb⟩; replace hB := bstep hB (Nat.le_refl _) hb; clear hb) | (go_at_call 12; (with_reducible refine (HA.out _ hs1).mono ?_); rintro e w5 ⟨rfl, hb⟩; replace hs1 := hs1.keep hb; replace hB := bstep hB (Nat.le_refl _) hb; clear hb) | (go_at_call 19; (with_reducible refine (HQ.out _ hs1).mono ?_); rintro e w6 ⟨rfl, hb⟩; replace hB := bstep hB (Nat.le_refl _) hb; clear hb))
        go_ret
        exact ⟨rfl, hB⟩
      · by_cases h2 : 1048576 < n
        · rw [okN_f (by omega), Bool.false_and] at HQ
          go_enter Try.func6, Try.ntmps6
          go_wp2_with (first | (go_at_call 7; (with_reducible refine (HF.out _).mono ?_); rintro e w2 ⟨rfl, rfl⟩) | (go_at_call 8; (with_reducible refine (awake_any _).mono ?_); rintro e w3 ⟨rfl, hb⟩; replace hB := bstep hB (Nat.le_refl _) hb; clear hb) | (go_at_call 12; (with_reducible refine (HA.out _ hs1).mono ?_); rintro e w5 ⟨rfl, hb⟩; replace hs1 := hs1.keep hb; replace hB := bstep hB (Nat.le_refl _) hb; clear hb) | (go_at_call 19; (with_reducible refine (HQ.out _ hs1).mono ?_); rintro e w6 ⟨rfl, hb⟩; replace hB := bstep hB (Nat.le_refl _) hb; clear hb))
          go_ret
          exact ⟨rfl, hB⟩
        · rw [okN_t ha (by omega) (by omega), Bool.true_and] at HQ
          obtain ⟨u, rfl⟩ := Int.eq_ofNat_of_zero_le (show 0 ≤ n by omega)
          have hu : u ≤ 600 := by omega
          have hx1 : ¬ (u : Int) < 0 := by omega
          have hx2 : ¬ (600 : Int) < (u : Int) := by omega
          have hx3 : (u : Int) ≤ 1048576 := by omega
          have HD := Lib.hid (fun W (hW : Sl eT 3 W A l) => qBad_yes A l c u W hW ha (by omega))
          clear hf2 h1 h2
          generalize badV l u = q at *
          by_cases hq : q = 0
          · subst hq
            go_enter Try.func6, Try.ntmps6
            go_wp2_with (first | (go_at_call 7; (with_reducible refine (HF.out _).mono ?_); rintro e w5 ⟨rfl, rfl⟩) | (go_at_call 8; (with_reducible refine (awake_any _).mono ?_); rintro e w5 ⟨rfl, hb⟩; replace hs1 := hs1.keep hb; replace hB := bstep hB (Nat.le_refl _) hb; clear hb) | (go_at_call 12; (with_reducible refine (HA.out _ hs1).mono ?_); rintro e w5 ⟨rfl, hb⟩; replace hs1 := hs1.keep hb; replace hB := bstep hB (Nat.le_refl _) hb; clear hb) | (go_at_call 14; (with_reducible refine (HD.out _ hs1).mono ?_); rintro e w5 ⟨rfl, rfl⟩) | (go_at_call 19; (with_reducible refine (HQ.out _ hs1).mono ?_); rintro e w5 ⟨rfl, hb⟩; replace hs1 := hs1.keep hb; replace hB := bstep hB (Nat.le_refl _) hb; clear hb))
            go_ret
            exact ⟨rfl, hB⟩
          · have hq1 : ((q : Int) == 0) = false := by simp; omega
            rw [decide_eq_false hq] at HQ
            go_enter Try.func6, Try.ntmps6
            go_wp2_with (first | (go_at_call 7; (with_reducible refine (HF.out _).mono ?_); rintro e w5 ⟨rfl, rfl⟩) | (go_at_call 8; (with_reducible refine (awake_any _).mono ?_); rintro e w5 ⟨rfl, hb⟩; replace hs1 := hs1.keep hb; replace hB := bstep hB (Nat.le_refl _) hb; clear hb) | (go_at_call 12; (with_reducible refine (HA.out _ hs1).mono ?_); rintro e w5 ⟨rfl, hb⟩; replace hs1 := hs1.keep hb; replace hB := bstep hB (Nat.le_refl _) hb; clear hb) | (go_at_call 14; (with_reducible refine (HD.out _ hs1).mono ?_); rintro e w5 ⟨rfl, rfl⟩) | (go_at_call 19; (with_reducible refine (HQ.out _ hs1).mono ?_); rintro e w5 ⟨rfl, hb⟩; replace hs1 := hs1.keep hb; replace hB := bstep hB (Nat.le_refl _) hb; clear hb))
            go_ret
            exact ⟨rfl, hB⟩

set_option maxRecDepth 100000 in
set_option maxHeartbeats 4000000 in
theorem enough_nat (A : Option Addr) (l : List Tk) (c : Nat) (u m : Nat) (w : World) (hs : Sl eT 3 w A l) (hm : l.length ≤ 9223372036854775807) (hu : u < 65536) (hm' : m < 65536) :
    Calls Try.prog 4 #[.slice A l.length c, .int .u16 u, .int .u16 m] w fun e w' => e = .returned (.bool true) ∧ Below w.heap.size w w' := by
  have hB := Below.refl w.heap.size w
  have hs1 := hs
  by_cases hl : 8 < l.length
  · go_enter Try.func4, Try.ntmps4
    go_wp2_with (go_at_call 8; (with_reducible refine (awake_any _).mono ?_); rintro e w5 ⟨rfl, hb⟩; replace hs1 := hs1.keep hb; replace hB := bstep hB (Nat.le_refl _) hb; clear hb)
    go_ret
    exact ⟨rfl, hB⟩
  · have HA := Lib.hid (fun W (hW : Sl eT 3 W A l) => qAll_any A l c W hW hm)
    cases ha : allT l
    · rw [ha] at HA
      go_enter Try.func4, Try.ntmps4
      go_wp2_with (first | (go_at_call 8; (with_reducible refine (awake_any _).mono ?_); rintro e w5 ⟨rfl, hb⟩; replace hs1 := hs1.keep hb; replace hB := bstep hB (Nat.le_refl _) hb; clear hb) | (go_at_call 12; (with_reducible refine (HA.out _ hs1).mono ?_); rintro e w5 ⟨rfl, hb⟩; replace hs1 := hs1.keep hb; replace hB := bstep hB (Nat.le_refl _) hb; clear hb))
      go_ret
      exact ⟨rfl, hB⟩
    · rw [ha] at HA
      have HL := Lib.hid (fun W (hW : Sl eT 3 W A l) => length_any A l c (1 + (m : Int) % 600) W hW hm (by omega))
      have HD := Lib.hid (fun W (hW : Sl eT 3 W A l) => bad_any A l c ((u : Int) % 600) W hW hm)
      have HE : Hid (0 < lenV l (1 + (m : Int) % 600) → 0 < badV l ((u : Int) % 600) → badV l ((u : Int) % 600) ≤ lenV l (1 + (m : Int) % 600)) := fun h1 h2 => by
        have e : lenV l (1 + (m : Int) % 600) = fixV 0 l (1 + (m : Int) % 600) := by unfold lenV; rw [okN_t ha (by omega) (by omega)]; rfl
        rw [e] at h1 ⊢
        exact enough_law (allT_mem ha) h1 h2
      unfold numV at HL HD
      generalize lenV l (1 + (m : Int) % 600) = q1 at *
      generalize badV l ((u : Int) % 600) = q2 at *
      by_cases h1 : q1 = 0
      · subst h1
        go_enter Try.func4, Try.ntmps4
        go_wp2_with (first | (go_at_call 8; (with_reducible refine (awake_any _).mono ?_); rintro e w5 ⟨rfl, hb⟩; replace hs1 := hs1.keep hb; replace hB := bstep hB (Nat.le_refl _) hb; clear hb) | (go_at_call 12; (with_reducible refine (HA.out _ hs1).mono ?_); rintro e w5 ⟨rfl, hb⟩; replace hs1 := hs1.keep hb; replace hB := bstep hB (Nat.le_refl _) hb; clear hb) | (go_at_call 9; (with_reducible refine (HL.out _ hs1).mono ?_); rintro e w5 ⟨rfl, hb⟩; replace hs1 := hs1.keep hb; replace hB := bstep hB (Nat.le_refl _) hb; clear hb) | (go_at_call 10; (with_reducible refine (HD.out _ hs1).mono ?_); rintro e w5 ⟨rfl, hb⟩; replace hs1 := hs1.keep hb; replace hB := bstep hB (Nat.le_refl _) hb; clear hb))
        go_ret
        exact ⟨rfl, hB⟩
      · have d1 : decide (0 < q1) = true := decide_eq_true (by omega)
        rw [d1] at HL
        by_cases h2 : q2 = 0
        · subst h2
          go_enter Try.func4, Try.ntmps4
          go_wp2_with (first | (go_at_call 8; (with_reducible refine (awake_any _).mono ?_); rintro e w5 ⟨rfl, hb⟩; replace hs1 := hs1.keep hb; replace hB := bstep hB (Nat.le_refl _) hb; clear hb) | (go_at_call 12; (with_reducible refine (HA.out _ hs1).mono ?_); rintro e w5 ⟨rfl, hb⟩; replace hs1 := hs1.keep hb; replace hB := bstep hB (Nat.le_refl _) hb; clear hb) | (go_at_call 9; (with_reducible refine (HL.out _ hs1).mono ?_); rintro e w5 ⟨rfl, hb⟩; replace hs1 := hs1.keep hb; replace hB := bstep hB (Nat.le_refl _) hb; clear hb) | (go_at_call 10; (with_reducible refine (HD.out _ hs1).mono ?_); rintro e w5 ⟨rfl, hb⟩; replace hs1 := hs1.keep hb; replace hB := bstep hB (Nat.le_refl _) hb; clear hb))
          go_ret
          exact ⟨rfl, hB⟩
        · have d2 : decide (0 < q2) = true := decide_eq_true (by omega)
          rw [d2] at HD
          have hle : (q2 : Int) ≤ (q1 : Int) := by have := HE.out (by omega) (by omega); omega
          clear HE
          go_enter Try.func4, Try.ntmps4
          go_wp2_with (first | (go_at_call 8; (with_reducible refine (awake_any _).mono ?_); rintro e w5 ⟨rfl, hb⟩; replace hs1 := hs1.keep hb; replace hB := bstep hB (Nat.le_refl _) hb; clear hb) | (go_at_call 12; (with_reducible refine (HA.out _ hs1).mono ?_); rintro e w5 ⟨rfl, hb⟩; replace hs1 := hs1.keep hb; replace hB := bstep hB (Nat.le_refl _) hb; clear hb) | (go_at_call 9; (with_reducible refine (HL.out _ hs1).mono ?_); rintro e w5 ⟨rfl, hb⟩; replace hs1 := hs1.keep hb; replace hB := bstep hB (Nat.le_refl _) hb; clear hb) | (go_at_call 10; (with_reducible refine (HD.out _ hs1).mono ?_); rintro e w5 ⟨rfl, hb⟩; replace hs1 := hs1.keep hb; replace hB := bstep hB (Nat.le_refl _) hb; clear hb))
          go_ret
          exact ⟨rfl, hB⟩
theorem lawEnough_any (A : Option Addr) (l : List Tk) (c : Nat) (u m : Int) (w : World) (hs : Sl eT 3 w A l) (hm : l.length ≤ 9223372036854775807) (hu : 0 ≤ u) (hu' : u < 65536) (hm0 : 0 ≤ m) (hm' : m < 65536) :
    Calls Try.prog 4 #[.slice A l.length c, .int .u16 u, .int .u16 m] w fun e w' => e = .returned (.bool true) ∧ Below w.heap.size w w' := by
  obtain ⟨u, rfl⟩ := Int.eq_ofNat_of_zero_le hu
  obtain ⟨m, rfl⟩ := Int.eq_ofNat_of_zero_le hm0
  exact enough_nat A l c u m w hs hm (by omega) (by omega)

set_option maxRecDepth 100000 in
set_option maxHeartbeats 4000000 in
theorem fixed_nat (A : Option Addr) (l : List Tk) (c : Nat) (u : Nat) (w : World) (hs : Sl eT 3 w A l) (hm : l.length ≤ 9223372036854775807) (hc : l.length ≤ c) (hu : u < 65536) :
    Calls Try.prog 5 #[.slice A l.length c, .int .u16 u] w fun e w' => e = .returned (.bool true) ∧ Below w.heap.size w w' := by
  have hB := Below.refl w.heap.size w
  have hs1 := hs
  go_enter Try.func5, Try.ntmps5
  go_wp2
  go_loop [5] (fun i => ∃ k : Nat, k ≤ l.length ∧ k ≤ 12 ∧ i = .int .i64 k) (fun i => l.length - (intOf i).toNat)
  case atStart => exact ⟨0, Nat.zero_le _, by omega, rfl⟩
  case round =>
    obtain ⟨k, hk, hk12, rfl⟩ := hrel
    by_cases hlt : k < l.length ∧ k < 12
    · obtain ⟨hlt, hlt12⟩ := hlt
      obtain ⟨b, off, rfl, c0, c1, c2⟩ := hs.tk_at hlt
      have k0 : (0 : Int) ≤ (k : Int) := by omega
      have k1 : (k : Int) < (l.length : Int) := by omega
      generalize l[k].dead = d at *
      by_cases h1 : 600 < d
      · by_cases h2 : d ≤ 1048576
        · go_wp2_with (go_at_call 8; (with_reducible refine (awake_any _).mono ?_); rintro e w5 ⟨rfl, hb⟩; replace hs1 := hs1.keep hb; replace hB := bstep hB (Nat.le_refl _) hb; clear hb)
          go_ret
          exact ⟨rfl, hB⟩
        · go_wp2_with fail
          go_round
          case rel => exact ⟨k + 1, by omega, by omega, by go_num⟩
          case measure => simp [intOf]; omega
      · go_wp2_with fail
        go_round
        case rel => exact ⟨k + 1, by omega, by omega, by go_num⟩
        case measure => simp [intOf]; omega
    · have HA := Lib.hid (fun W (hW : Sl eT 3 W A l) => qAll_any A l c W hW hm)
      have HF := Lib.hid (fun W (hW : Sl eT 3 W A l) => fixed_any A l c W hW hm hc)
      have HG := Lib.hid (fun W (hW : Sl eT 3 W A l) (ha : allT l = true) => qFixed_yes A l c W hW ha hc)
      have HD := Lib.hid (fun W (hW : Sl eT 3 W A l) => bad_any A l c ((u : Int) % 600) W hW hm)
      have HE := Lib.hid (fun h => fixed_law (l := l) h ((u : Int) % 600))
      have HN : Hid (allT l = false → fixedB l = false) := fun h => by unfold fixedB; rw [h]; rfl
      unfold numV at HD
      generalize badV l ((u : Int) % 600) = q2 at *
      by_cases hkl : k < l.length
      · have hk2 : (12 : Int) < (l.length : Int) := by omega
        have hk3 : (k : Int) < (l.length : Int) := by omega
        have hk4 : ¬ (k : Int) < 12 := by omega
        go_wp2_with (go_at_call 8; (with_reducible refine (awake_any _).mono ?_); rintro e w5 ⟨rfl, hb⟩; replace hs1 := hs1.keep hb; replace hB := bstep hB (Nat.le_refl _) hb; clear hb)
        go_ret
        exact ⟨rfl, hB⟩
      · obtain rfl : k = l.length := by omega
        clear hlt hkl
        cases ha : allT l
        · rw [ha] at HA
          have hfx := HN.out ha
          rw [hfx] at HF
          clear HG HE HN hfx
          by_cases h2 : q2 = 0
          · subst h2
            go_wp2_with (first | (go_at_call 8; (with_reducible refine (awake_any _).mono ?_); rintro e w5 ⟨rfl, hb⟩; replace hs1 := hs1.keep hb; replace hB := bstep hB (Nat.le_refl _) hb; clear hb) | (go_at_call 12; (with_reducible refine (HA.out _ hs1).mono ?_); rintro e w5 ⟨rfl, hb⟩; replace hs1 := hs1.keep hb; replace hB := bstep hB (Nat.le_refl _) hb; clear hb) | (go_at_call 10; (with_reducible refine (HD.out _ hs1).mono ?_); rintro e w5 ⟨rfl, hb⟩; replace hs1 := hs1.keep hb; replace hB := bstep hB (Nat.le_refl _) hb; clear hb) | (go_at_call 18; (with_reducible refine (HF.out _ hs1).mono ?_); rintro e w5 ⟨rfl, hb⟩; replace hs1 := hs1.keep hb; replace hB := bstep hB (Nat.le_refl _) hb; clear hb))
            go_ret
            exact ⟨rfl, hB⟩
          · have d2 : decide (0 < q2) = true := decide_eq_true (by omega)
            rw [d2] at HD
            go_wp2_with (first | (go_at_call 8; (with_reducible refine (awake_any _).mono ?_); rintro e w5 ⟨rfl, hb⟩; replace hs1 := hs1.keep hb; replace hB := bstep hB (Nat.le_refl _) hb; clear hb) | (go_at_call 12; (with_reducible refine (HA.out _ hs1).mono ?_); rintro e w5 ⟨rfl, hb⟩; replace hs1 := hs1.keep hb; replace hB := bstep hB (Nat.le_refl _) hb; clear hb) | (go_at_call 10; (with_reducible refine (HD.out _ hs1).mono ?_); rintro e w5 ⟨rfl, hb⟩; replace hs1 := hs1.keep hb; replace hB := bstep hB (Nat.le_refl _) hb; clear hb) | (go_at_call 18; (with_reducible refine (HF.out _ hs1).mono ?_); rintro e w5 ⟨rfl, hb⟩; replace hs1 := hs1.keep hb; replace hB := bstep hB (Nat.le_refl _) hb; clear hb))
            go_ret
            exact ⟨rfl, hB⟩
        · rw [ha] at HA
          replace HG := Lib.hid (fun W hW => HG.out W hW ha)
          cases hfx : fixedB l
          · rw [hfx] at HF HG
            go_wp2_with (first | (go_at_call 8; (with_reducible refine (awake_any _).mono ?_); rintro e w5 ⟨rfl, hb⟩; replace hs1 := hs1.keep hb; replace hB := bstep hB (Nat.le_refl _) hb; clear hb) | (go_at_call 12; (with_reducible refine (HA.out _ hs1).mono ?_); rintro e w5 ⟨rfl, hb⟩; replace hs1 := hs1.keep hb; replace hB := bstep hB (Nat.le_refl _) hb; clear hb) | (go_at_call 10; (with_reducible refine (HD.out _ hs1).mono ?_); rintro e w5 ⟨rfl, hb⟩; replace hs1 := hs1.keep hb; replace hB := bstep hB (Nat.le_refl _) hb; clear hb) | (go_at_call 18; (with_reducible refine (HF.out _ hs1).mono ?_); rintro e w5 ⟨rfl, hb⟩; replace hs1 := hs1.keep hb; replace hB := bstep hB (Nat.le_refl _) hb; clear hb) | (go_at_call 17; (with_reducible refine (HG.out _ hs1).mono ?_); rintro e w5 ⟨rfl, hb⟩; replace hs1 := hs1.keep hb; replace hB := bstep hB (Nat.le_refl _) hb; clear hb))
            go_ret
            exact ⟨rfl, hB⟩
          · have h0 := HE.out hfx
            rw [hfx] at HF HG
            subst h0
            go_wp2_with (first | (go_at_call 8; (with_reducible refine (awake_any _).mono ?_); rintro e w5 ⟨rfl, hb⟩; replace hs1 := hs1.keep hb; replace hB := bstep hB (Nat.le_refl _) hb; clear hb) | (go_at_call 12; (with_reducible refine (HA.out _ hs1).mono ?_); rintro e w5 ⟨rfl, hb⟩; replace hs1 := hs1.keep hb; replace hB := bstep hB (Nat.le_refl _) hb; clear hb) | (go_at_call 10; (with_reducible refine (HD.out _ hs1).mono ?_); rintro e w5 ⟨rfl, hb⟩; replace hs1 := hs1.keep hb; replace hB := bstep hB (Nat.le_refl _) hb; clear hb) | (go_at_call 18; (with_reducible refine (HF.out _ hs1).mono ?_); rintro e w5 ⟨rfl, hb⟩; replace hs1 := hs1.keep hb; replace hB := bstep hB (Nat.le_refl _) hb; clear hb) | (go_at_call 17; (with_reducible refine (HG.out _ hs1).mono ?_); rintro e w5 ⟨rfl, hb⟩; replace hs1 := hs1.keep hb; replace hB := bstep hB (Nat.le_refl _) hb; clear hb))
            go_ret
            exact ⟨rfl, hB⟩
theorem lawFixed_any (A : Option Addr) (l : List Tk) (c : Nat) (u : Int) (w : World) (hs : Sl eT 3 w A l) (hm : l.length ≤ 9223372036854775807) (hc : l.length ≤ c) (hu : 0 ≤ u) (hu' : u < 65536) :
    Calls Try.prog 5 #[.slice A l.length c, .int .u16 u] w fun e w' => e = .returned (.bool true) ∧ Below w.heap.size w w' := by
  obtain ⟨u, rfl⟩ := Int.eq_ofNat_of_zero_le hu
  exact fixed_nat A l c u w hs hm hc (by omega)
end Go.Proofs.Ytlnpjelanheijaa
