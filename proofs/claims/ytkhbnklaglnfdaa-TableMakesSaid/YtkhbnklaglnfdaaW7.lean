/- Walks: the statement TableKeeps. -/
import Derived.Test.YtkhbnklaglnfdaaW6
namespace Go.Proofs.Ytkhbnklaglnfdaa
open Go.RowKit

set_option maxRecDepth 100000 in
set_option maxHeartbeats 8000000 in
theorem tkeeps_any (A : Option Addr) (l : List Tk) (c : Nat) (B : Option Addr) (T : List Int) (d : Nat) (now : Int) (w : World) (hs : Sl eT 3 w A l) (hm : l.length ≤ 9223372036854775807) (hz : Sl eI 1 w B T) (hmz : T.length ≤ 9223372036854775807) (hcap : T.length ≤ d) (hnow : now ≤ 9223372036854775807) :
    Calls Try.prog 4 #[.slice A l.length c, .slice B T.length d, .int .i64 now] w fun e w' => e = .returned (.bool true) ∧ Below w.heap.size w w' := by
  have hB := Below.refl w.heap.size w
  by_cases hout : 12 < l.length ∨ (500 < T.length ∧ T.length ≤ 4096) ∨ 5000 < T.length
  · by_cases h1 : 12 < l.length
    · have h1' : (12 : Int) < (l.length : Int) := by omega
      go_enter Try.func4, Try.ntmps4
      go_wp2_with (first | (go_at_call 8; (with_reducible refine (awake_any _).mono ?_); rintro e w5 ⟨rfl, hb⟩; replace hB := bstep hB (Nat.le_refl _) hb; clear hb))
      go_ret
      exact ⟨rfl, hB⟩
    · have h1' : (l.length : Int) ≤ 12 := by omega
      by_cases h2 : 5000 < T.length
      · have h2' : (5000 : Int) < (T.length : Int) := by omega
        go_enter Try.func4, Try.ntmps4
        go_wp2_with (first | (go_at_call 8; (with_reducible refine (awake_any _).mono ?_); rintro e w5 ⟨rfl, hb⟩; replace hB := bstep hB (Nat.le_refl _) hb; clear hb))
        go_ret
        exact ⟨rfl, hB⟩
      · have h3 : (500 : Int) < (T.length : Int) := by omega
        have h4 : (T.length : Int) ≤ 4096 := by omega
        go_enter Try.func4, Try.ntmps4
        go_wp2_with (first | (go_at_call 8; (with_reducible refine (awake_any _).mono ?_); rintro e w5 ⟨rfl, hb⟩; replace hB := bstep hB (Nat.le_refl _) hb; clear hb))
        go_ret
        exact ⟨rfl, hB⟩
  have h1' : (l.length : Int) ≤ 12 := by omega
  have h5' : (T.length : Int) ≤ 5000 := by omega
  have HA := Lib.hid (fun W hW => qAll_any A l c W hW hm)
  have HKP := Lib.hid (fun W hW hW2 => tKeeps_any A l c B T d W hW hm hW2 hmz hcap)
  have HAt := Lib.hid (fun W hW => at_any B T d now W hW hmz hnow)
  have HId := Lib.hid (fun W hW => idle_any B T d W hW hmz)
  have HAV : Hid (atV T now = if T.length = 0 ∨ now < 0 then -1 else if tAt T (now.toNat % T.length) < -1 then -1 else tAt T (now.toNat % T.length)) := rfl
  go_enter Try.func4, Try.ntmps4
  go_upto_region 1 with (fail)
  go_cut [27] (fun s27 wx => s27 = .bool false ∧ wx = w)
  case first =>
    by_cases h3 : 500 < T.length
    · have h3' : (500 : Int) < (T.length : Int) := by omega
      have h4' : (4096 : Int) < (T.length : Int) := by omega
      go_wp2_with fail
      go_meet
      exact ⟨by first | rfl | (simp; omega), rfl⟩
    · have h3' : (T.length : Int) ≤ 500 := by omega
      go_wp2_with fail
      go_meet
      exact ⟨by first | rfl | (simp; omega), rfl⟩
  obtain ⟨rfl, hwc⟩ := hcut
  replace hwc := hwc.symm
  subst hwc
  go_upto_region 3 with (fail)
  go_cut [39] (fun s39 wx => s39 = .bool false ∧ Below w.heap.size w wx)
  case first =>
    cases hall : allT l
    · rw [hall] at HA HKP
      simp only [Bool.false_and] at HKP
      go_wp2_with (first | (go_at_call 10; (with_reducible refine (HKP.out _ (hs.keep hB) (hz.keep hB)).mono ?_); rintro e w5 ⟨rfl, hb⟩; replace hB := bstep hB (Nat.le_refl _) hb; clear hb) | (go_at_call 6; (with_reducible refine (HA.out _ (hs.keep hB)).mono ?_); rintro e w6 ⟨rfl, hb⟩; replace hB := bstep hB (Nat.le_refl _) hb; clear hb))
      go_meet
      exact ⟨by first | rfl | simp, hB⟩
    · rw [hall] at HA HKP
      simp only [Bool.true_and] at HKP
      have HRK := Lib.hid (fun W hW hW2 => rKeeps_any A l c B T d W hW hW2 hmz hall)
      generalize keepsB l T = K at *
      go_wp2_with (first | (go_at_call 10; (with_reducible refine (HKP.out _ (hs.keep hB) (hz.keep hB)).mono ?_); rintro e w5 ⟨rfl, hb⟩; replace hB := bstep hB (Nat.le_refl _) hb; clear hb) | (go_at_call 6; (with_reducible refine (HA.out _ (hs.keep hB)).mono ?_); rintro e w6 ⟨rfl, hb⟩; replace hB := bstep hB (Nat.le_refl _) hb; clear hb) | (go_at_call 7; (with_reducible refine (HRK.out _ (hs.keep hB) (hz.keep hB)).mono ?_); rintro e w7 ⟨rfl, rfl⟩))
      go_meet
      exact ⟨by first | rfl | simp, hB⟩
  clear HA HKP hB
  obtain ⟨rfl, hB⟩ := hcut
  have hz1 := hz.keep hB
  go_wp2_with fail
  go_loop [7, 8] (fun vn vk => ∃ k n : Nat, k ≤ T.length ∧ vk = .int .i64 k ∧ vn = .int .i64 n ∧ n ≤ k ∧ Hid (n = idN T k)) (fun _ vk => T.length - (intOf vk).toNat)
  case atStart => exact ⟨0, 0, Nat.zero_le _, rfl, rfl, Nat.le_refl _, rfl⟩
  case round =>
    obtain ⟨k, n, hk, rfl, rfl, hn, HN⟩ := hrel
    by_cases hlt : k < T.length
    · obtain ⟨b, off, rfl, c0⟩ := hz1.int_at hlt
      rw [← tAt_eq] at c0
      have HE : Hid (idN T (k + 1) = n + (if tAt T k < 0 then 1 else 0)) := by show _ = _; rw [idN, ← HN.out]
      have k0 : (0 : Int) ≤ (k : Int) := by omega
      have k1 : (k : Int) < (T.length : Int) := by omega
      generalize tAt T k = x at *
      clear HN HAV
      by_cases hx : x < 0
      · have HE2 : Hid (idN T (k + 1) = n + 1) := by have := HE.out; rw [if_pos hx] at this; exact this
        go_wp2_with fail
        go_round
        case rel => exact ⟨k + 1, n + 1, by omega, by go_num, by go_num, by omega, HE2.out.symm⟩
        case measure => simp [intOf]; omega
      · have HE2 : Hid (idN T (k + 1) = n) := by have := HE.out; rw [if_neg hx] at this; exact this
        go_wp2_with fail
        go_round
        case rel => exact ⟨k + 1, n, by omega, by go_num, rfl, by omega, HE2.out.symm⟩
        case measure => simp [intOf]; omega
    · obtain rfl : k = T.length := by omega
      rw [← HN.out] at HId
      clear HN hk hlt
      by_cases h0 : T.length = 0
      · have HV : Hid (atV T now = -1) := by have := HAV.out; rw [if_pos (.inl h0)] at this; exact this
        rw [HV.out] at HAt
        have h0' : ¬ (0 : Int) < (T.length : Int) := by omega
        clear h0 HAV HV
        go_wp2_with (first | (go_at_call 9; (with_reducible refine (HAt.out _ (hz.keep hB)).mono ?_); rintro e w8 ⟨rfl, rfl⟩) | (go_at_call 11; (with_reducible refine (HId.out _ (hz.keep hB)).mono ?_); rintro e w9 ⟨rfl, rfl⟩) | (go_at_call 8; (with_reducible refine (awake_any _).mono ?_); rintro e w5 ⟨rfl, hb⟩; replace hB := bstep hB (Nat.le_refl _) hb; clear hb))
        go_ret
        exact ⟨by first | rfl | (simp; done), hB⟩
      have h0' : (0 : Int) < (T.length : Int) := by omega
      by_cases h1 : now < 0
      · have HV : Hid (atV T now = -1) := by have := HAV.out; rw [if_pos (.inr h1)] at this; exact this
        rw [HV.out] at HAt
        clear HAV HV
        go_wp2_with (first | (go_at_call 9; (with_reducible refine (HAt.out _ (hz.keep hB)).mono ?_); rintro e w8 ⟨rfl, rfl⟩) | (go_at_call 11; (with_reducible refine (HId.out _ (hz.keep hB)).mono ?_); rintro e w9 ⟨rfl, rfl⟩) | (go_at_call 8; (with_reducible refine (awake_any _).mono ?_); rintro e w5 ⟨rfl, hb⟩; replace hB := bstep hB (Nat.le_refl _) hb; clear hb))
        go_ret
        exact ⟨by first | rfl | (simp; done), hB⟩
      obtain ⟨u, rfl⟩ := Int.eq_ofNat_of_zero_le (show 0 ≤ now by omega)
      have HV : Hid (atV T (u : Int) = if tAt T (u % T.length) < -1 then -1 else tAt T (u % T.length)) := by have := HAV.out; rw [if_neg (by omega), Int.toNat_natCast] at this; exact this
      have hlt : u % T.length < T.length := Nat.mod_lt _ (by omega)
      obtain ⟨b, off, rfl, c0⟩ := hz1.int_at hlt
      rw [← tAt_eq] at c0
      have e1 : (u : Int) % (T.length : Int) = ((u % T.length : Nat) : Int) := by rw [Int.natCast_emod]
      have e2 := tmod_in u T.length (by omega)
      have h1' : ¬ (T.length : Int) = 0 := by omega
      have hu : (0 : Int) ≤ (u : Int) := by omega
      clear HAV h0 h1
      generalize u % T.length = q at *
      generalize tAt T q = x at *
      have q0 : (0 : Int) ≤ (q : Int) := by omega
      have q1 : (q : Int) < (T.length : Int) := by omega
      by_cases hx : x < -1
      · have HV3 : Hid (atV T (u : Int) = -1) := by have := HV.out; rw [if_pos hx] at this; exact this
        rw [HV3.out] at HAt
        clear HV HV3
        go_wp2_with (first | (go_at_call 9; (with_reducible refine (HAt.out _ (hz.keep hB)).mono ?_); rintro e w8 ⟨rfl, rfl⟩) | (go_at_call 11; (with_reducible refine (HId.out _ (hz.keep hB)).mono ?_); rintro e w9 ⟨rfl, rfl⟩) | (go_at_call 8; (with_reducible refine (awake_any _).mono ?_); rintro e w5 ⟨rfl, hb⟩; replace hB := bstep hB (Nat.le_refl _) hb; clear hb))
        go_ret
        exact ⟨by first | rfl | (simp; done), hB⟩
      · have HV3 : Hid (atV T (u : Int) = x) := by have := HV.out; rw [if_neg hx] at this; exact this
        rw [HV3.out] at HAt
        clear HV HV3
        go_wp2_with (first | (go_at_call 9; (with_reducible refine (HAt.out _ (hz.keep hB)).mono ?_); rintro e w8 ⟨rfl, rfl⟩) | (go_at_call 11; (with_reducible refine (HId.out _ (hz.keep hB)).mono ?_); rintro e w9 ⟨rfl, rfl⟩) | (go_at_call 8; (with_reducible refine (awake_any _).mono ?_); rintro e w5 ⟨rfl, hb⟩; replace hB := bstep hB (Nat.le_refl _) hb; clear hb))
        go_ret
        exact ⟨by first | rfl | (simp; done), hB⟩
end Go.Proofs.Ytkhbnklaglnfdaa
