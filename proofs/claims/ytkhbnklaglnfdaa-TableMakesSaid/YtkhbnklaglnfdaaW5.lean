/- Walks: the statement TableServes. -/
import Derived.Test.YtkhbnklaglnfdaaW4
namespace Go.Proofs.Ytkhbnklaglnfdaa
open Go.RowKit

theorem at_is {T : List Int} {x k : Nat} (h : 1 ≤ T.length) : (atV T (x : Int) == (k : Int)) = decide (tAt T (x % T.length) = (k : Int)) := by
  unfold atV
  rw [if_neg (by omega), Int.toNat_natCast]
  rw [Bool.eq_iff_iff]
  simp only [beq_iff_eq, decide_eq_true_eq]
  split <;> omega
set_option maxRecDepth 100000 in
set_option maxHeartbeats 4000000 in
theorem serves_any (A : Option Addr) (l : List Tk) (c : Nat) (B : Option Addr) (T : List Int) (d : Nat) (job : Nat) (w : World) (hs : Sl eT 3 w A l) (hm : l.length ≤ 9223372036854775807) (hz : Sl eI 1 w B T) (hmz : T.length ≤ 9223372036854775807) (hj : job ≤ 65535) :
    Calls Try.prog 3 #[.slice A l.length c, .slice B T.length d, .int .u16 job] w fun e w' => e = .returned (.bool true) ∧ Below w.heap.size w w' := by
  have hB := Below.refl w.heap.size w
  by_cases h1 : 8 < l.length
  · have h1' : (8 : Int) < (l.length : Int) := by omega
    go_enter Try.func3, Try.ntmps3
    go_wp2_with (first | (go_at_call 8; (with_reducible refine (awake_any _).mono ?_); rintro e w5 ⟨rfl, hb⟩; replace hB := bstep hB (Nat.le_refl _) hb; clear hb))
    go_ret
    exact ⟨rfl, hB⟩
  have h1' : (l.length : Int) ≤ 8 := by omega
  by_cases h2 : 500 < T.length
  · have h2' : (500 : Int) < (T.length : Int) := by omega
    go_enter Try.func3, Try.ntmps3
    go_wp2_with (first | (go_at_call 8; (with_reducible refine (awake_any _).mono ?_); rintro e w5 ⟨rfl, hb⟩; replace hB := bstep hB (Nat.le_refl _) hb; clear hb))
    go_ret
    exact ⟨rfl, hB⟩
  have h2' : (T.length : Int) ≤ 500 := by omega
  have HA := Lib.hid (qAll_any A l c w hs hm)
  cases hall : allT l
  · rw [hall] at HA
    go_enter Try.func3, Try.ntmps3
    go_wp2_with (first | (go_at_call 6; (with_reducible refine (HA.out).mono ?_); rintro e w5 ⟨rfl, hb⟩; replace hB := bstep hB (Nat.le_refl _) hb; clear hb) | (go_at_call 8; (with_reducible refine (awake_any _).mono ?_); rintro e w5 ⟨rfl, hb⟩; replace hB := bstep hB (Nat.le_refl _) hb; clear hb))
    go_ret
    exact ⟨rfl, hB⟩
  rw [hall] at HA
  have HK := Lib.hid (fun W hW hW2 => rKeeps_any A l c B T d W hW hW2 hmz hall)
  cases hk : keepsB l T
  · rw [hk] at HK
    go_enter Try.func3, Try.ntmps3
    go_wp2_with (first | (go_at_call 6; (with_reducible refine (HA.out).mono ?_); rintro e w5 ⟨rfl, hb⟩; replace hB := bstep hB (Nat.le_refl _) hb; clear hb) | (go_at_call 7; (with_reducible refine (HK.out _ (hs.keep hB) (hz.keep hB)).mono ?_); rintro e w5 ⟨rfl, rfl⟩) | (go_at_call 8; (with_reducible refine (awake_any _).mono ?_); rintro e w5 ⟨rfl, hb⟩; replace hB := bstep hB (Nat.le_refl _) hb; clear hb))
    go_ret
    exact ⟨rfl, hB⟩
  rw [hk] at HK
  have HP := Lib.hid (keepsB_get hk)
  have H := Lib.hid hall
  have hT1 := HP.out.1
  clear hk hall h1 h2
  go_enter Try.func3, Try.ntmps3
  go_wp2_with (first | (go_at_call 6; (with_reducible refine (HA.out).mono ?_); rintro e w5 ⟨rfl, hb⟩; replace hB := bstep hB (Nat.le_refl _) hb; clear hb) | (go_at_call 7; (with_reducible refine (HK.out _ (hs.keep hB) (hz.keep hB)).mono ?_); rintro e w6 ⟨rfl, rfl⟩))
  have hs1 := hs.keep hB
  have hz1 := hz.keep hB
  clear HA HK
  go_loop [7, 8, 9, 10] (fun vi _ _ _ => ∃ k : Nat, k ≤ l.length ∧ vi = .int .i64 k) (fun vi _ _ _ => l.length - (intOf vi).toNat)
  case atStart => exact ⟨0, Nat.zero_le _, rfl⟩
  case round =>
    obtain ⟨k, hk, rfl⟩ := hrel
    by_cases hlt : k < l.length
    · have hr := allT_at H.out hlt
      have HRow := HP.out.2.2.2 k hlt
      obtain ⟨b, off, rfl, c0, c1, c2⟩ := hs1.tk_at hlt
      have k0 : (0 : Int) ≤ (k : Int) := by omega
      have k1 : (k : Int) < (l.length : Int) := by omega
      generalize l[k] = t at *
      obtain ⟨C, P, D⟩ := t
      simp only at hr c0 c1 c2 HRow
      obtain ⟨p, rfl⟩ := Int.eq_ofNat_of_zero_le (show 0 ≤ P by omega)
      obtain ⟨D, rfl⟩ := Int.eq_ofNat_of_zero_le (show 0 ≤ D by omega)
      rw [Int.toNat_natCast, Int.toNat_natCast] at HRow
      obtain ⟨q, _, hq2, hq3⟩ := serve_count (by omega) HRow (by omega) hT1 job
      have HQ2 := Lib.hid hq2
      have HQ3 := Lib.hid hq3
      have hM : job * p ≤ 68719476736 := by
        have := Nat.mul_le_mul hj (show p ≤ 1048576 by omega)
        omega
      have e0 : (job : Int) * (p : Int) = ((job * p : Nat) : Int) := by rw [Int.natCast_mul]
      clear hq2 hq3 HRow
      generalize job * p = M at *
      obtain ⟨E, hE⟩ : ∃ E : Nat, E = M + D := ⟨_, rfl⟩
      have hw1 : (M : Int) + (D : Int) = (E : Int) := by omega
      have hME : (M : Int) ≤ (E : Int) := by omega
      have HE := Lib.hid hE
      have hMN : M ≤ E := by omega
      have hEb : E ≤ M + 1048576 := by omega
      have hE1 : E ≤ 68720525312 := by omega
      clear hE
      go_wp2_with fail
      go_loop [8, 10] (fun vn vx => ∃ (x : Nat) (n : Int), M ≤ x ∧ x ≤ E ∧ vx = .int .i64 x ∧ vn = .int .i64 n ∧ 0 ≤ n ∧ n ≤ x ∧ Hid (n = cR T k (q * p) (x - M))) (fun _ vx => E - (intOf vx).toNat)
      case atStart => exact ⟨M, 0, Nat.le_refl _, hMN, rfl, rfl, by omega, by omega, by rw [Nat.sub_self]; rfl⟩
      case round =>
        obtain ⟨x, n, hx1, hx2, rfl, rfl, hn0, hn1, HN⟩ := hrel
        by_cases hxl : x < E
        · have HAt := Lib.hid (fun W hW => at_any B T d (x : Int) W hW hmz (by omega))
          have HIS := Lib.hid (at_is (T := T) (x := x) (k := k) hT1)
          have HNX : Hid (cR T k (q * p) (x + 1 - M) = n + (if tAt T (x % T.length) = (k : Int) then 1 else 0)) := by
            show _ = _
            have := HQ2.out (x - M) (by have := HE.out; omega)
            rw [show M + (x - M) = x by omega] at this
            rw [show x + 1 - M = (x - M) + 1 by omega, cR, ← HN.out, this]
          have hxl' : (x : Int) < (E : Int) := by omega
          clear HN
          generalize atV T (x : Int) = a at *
          by_cases hh : tAt T (x % T.length) = (k : Int)
          · have hae : (a == (k : Int)) = true := by rw [HIS.out, decide_eq_true hh]
            have HNY : Hid (n + 1 = cR T k (q * p) (x + 1 - M)) := by have := HNX.out; rw [if_pos hh] at this; exact this.symm
            clear HNX HIS hh
            go_wp2_with (first | (go_at_call 9; (with_reducible refine (HAt.out _ hz1).mono ?_); rintro e w7 ⟨rfl, rfl⟩))
            go_round
            case rel => exact ⟨x + 1, n + 1, by omega, by omega, by go_num, rfl, by omega, by omega, HNY.out⟩
            case measure => simp [intOf]; omega
          · have hae : (a == (k : Int)) = false := by rw [HIS.out, decide_eq_false hh]
            have HNY : Hid (n = cR T k (q * p) (x + 1 - M)) := by have := HNX.out; rw [if_neg hh] at this; rw [Int.add_zero] at this; exact this.symm
            clear HNX HIS hh
            go_wp2_with (first | (go_at_call 9; (with_reducible refine (HAt.out _ hz1).mono ?_); rintro e w7 ⟨rfl, rfl⟩))
            go_round
            case rel => exact ⟨x + 1, n, by omega, by omega, by go_num, rfl, by omega, by omega, HNY.out⟩
            case measure => simp [intOf]; omega
        · obtain rfl : x = E := by omega
          obtain rfl : n = C := by
            have := HN.out
            rw [show x - M = D by have := HE.out; omega, HQ3.out] at this
            exact this
          clear HN HQ3
          go_wp2_with fail
          go_round
          case rel => exact ⟨k + 1, by omega, by go_num⟩
          case measure => simp [intOf]; omega
    · obtain rfl : k = l.length := by omega
      go_wp2_with (first | (go_at_call 8; (with_reducible refine (awake_any _).mono ?_); rintro e w7 ⟨rfl, hb⟩; replace hB := bstep hB (Nat.le_refl _) hb; clear hb))
      go_ret
      exact ⟨rfl, hB⟩
theorem serves_int (A : Option Addr) (l : List Tk) (c : Nat) (B : Option Addr) (T : List Int) (d : Nat) (job : Int) (w : World) (hs : Sl eT 3 w A l) (hm : l.length ≤ 9223372036854775807) (hz : Sl eI 1 w B T) (hmz : T.length ≤ 9223372036854775807) (h0 : 0 ≤ job) (hj : job ≤ 65535) :
    Calls Try.prog 3 #[.slice A l.length c, .slice B T.length d, .int .u16 job] w fun e w' => e = .returned (.bool true) ∧ Below w.heap.size w w' := by
  obtain ⟨j, rfl⟩ := Int.eq_ofNat_of_zero_le h0
  exact serves_any A l c B T d j w hs hm hz hmz (by omega)
end Go.Proofs.Ytkhbnklaglnfdaa
