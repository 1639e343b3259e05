/- Walks: the document's word on which tables keep all deadlines. -/
import Derived.Test.YtkhbnklaglnfdaaW3
namespace Go.Proofs.Ytkhbnklaglnfdaa
open Go.RowKit

theorem stepK_in {i : Int} {P D : Nat} {C : Int} {r : Nat} {had h0 x : Int} (h : (if r = 0 then 0 else had) = h0) : stepK i P D C r had x = if x = i then (if D ≤ r ∨ C < h0 + 1 then none else if r + 1 = P ∧ h0 + 1 ≠ C then none else some (h0 + 1)) else if r + 1 = P ∧ h0 ≠ C then none else some h0 := by
  unfold stepK
  rw [h]
set_option maxRecDepth 100000 in
set_option maxHeartbeats 8000000 in
theorem rKeeps_any (A : Option Addr) (l : List Tk) (c : Nat) (B : Option Addr) (T : List Int) (d : Nat) (w : World) (hs : Sl eT 3 w A l) (hz : Sl eI 1 w B T) (hm : T.length ≤ 9223372036854775807) (h : allT l = true) :
    Calls Try.prog 7 #[.slice A l.length c, .slice B T.length d] w fun e w' => e = .returned (.bool (keepsB l T)) ∧ w = w' := by
  have hs8 := allT_len h
  have H := Lib.hid h
  clear h
  have HKF : Hid (¬ KeepsP l T → keepsB l T = false) := fun h => keepsB_f h
  have HKT : Hid (KeepsP l T → keepsB l T = true) := fun h => keepsB_t h
  generalize keepsB l T = K at *
  by_cases h1 : T.length < 1
  · have hk := Lib.hid (HKF.out (fun h => by have := h.1; omega))
    have h1' : (T.length : Int) < 1 := by omega
    go_enter Try.func7, Try.ntmps7
    go_wp2_with fail
    go_ret
    exact ⟨ret_bool hk.out.symm, rfl⟩
  by_cases h2 : 4096 < T.length
  · have hk := Lib.hid (HKF.out (fun h => by have := h.2.1; omega))
    have h1' : (1 : Int) ≤ (T.length : Int) := by omega
    have h2' : (4096 : Int) < (T.length : Int) := by omega
    go_enter Try.func7, Try.ntmps7
    go_wp2_with fail
    go_ret
    exact ⟨ret_bool hk.out.symm, rfl⟩
  have h1' : (1 : Int) ≤ (T.length : Int) := by omega
  have h2' : (T.length : Int) ≤ 4096 := by omega
  have hT1 : 1 ≤ T.length := by omega
  have hT2 : T.length ≤ 4096 := by omega
  clear h1 h2
  go_enter Try.func7, Try.ntmps7
  go_wp2_with fail
  go_loop [5] (fun i => ∃ k : Nat, k ≤ T.length ∧ i = .int .i64 k ∧ Hid (∀ n (h : n < T.length), n < k → T[n] < l.length)) (fun i => T.length - (intOf i).toNat)
  case atStart => exact ⟨0, Nat.zero_le _, rfl, fun n h hk => absurd hk (by omega)⟩
  case round =>
    obtain ⟨k, hk, rfl, HK⟩ := hrel
    by_cases hlt : k < T.length
    · obtain ⟨b, off, rfl, c0⟩ := hz.int_at hlt
      have k0 : (0 : Int) ≤ (k : Int) := by omega
      have k1 : (k : Int) < (T.length : Int) := by omega
      by_cases hx : T[k] < l.length
      · have HK2 : Hid (∀ n (h : n < T.length), n < k + 1 → T[n] < l.length) := fun n hn hnk => by
          by_cases he : n = k
          · subst he; exact hx
          · exact HK.out n hn (by omega)
        clear HK
        generalize T[k] = x at *
        go_wp2_with fail
        go_round
        case rel => exact ⟨k + 1, by omega, by go_num, HK2.out⟩
        case measure => simp [intOf]; omega
      · have hkf := Lib.hid (HKF.out (fun h => hx (h.2.2.1 k hlt)))
        have hx' : (l.length : Int) ≤ T[k] := by omega
        generalize T[k] = x at *
        go_wp2_with fail
        go_ret
        exact ⟨ret_bool hkf.out.symm, rfl⟩
    · obtain rfl : k = T.length := by omega
      go_wp2_with fail
      go_loop [6, 7, 8, 9] (fun vi _ _ _ => ∃ k : Nat, k ≤ l.length ∧ vi = .int .i64 k ∧ Hid (∀ i (h : i < l.length), i < k → RowOk T i l[i].period.toNat l[i].dead.toNat l[i].cost)) (fun vi _ _ _ => l.length - (intOf vi).toNat)
      case atStart => exact ⟨0, Nat.zero_le _, rfl, fun n h hk => absurd hk (by omega)⟩
      case round =>
        obtain ⟨k, hk, rfl, HR⟩ := hrel
        by_cases hlt : k < l.length
        · obtain ⟨b, off, rfl, c0, c1, c2⟩ := hs.tk_at hlt
          have hr := allT_at H.out hlt
          have k0 : (0 : Int) ≤ (k : Int) := by omega
          have k1 : (k : Int) < (l.length : Int) := by omega
          have HN : Hid (¬ RowOk T k l[k].period.toNat l[k].dead.toNat l[k].cost → K = false) := fun hno => HKF.out (fun h => hno (h.2.2.2 k hlt))
          have HY : Hid (RowOk T k l[k].period.toNat l[k].dead.toNat l[k].cost → ∀ i (h : i < l.length), i < k + 1 → RowOk T i l[i].period.toNat l[i].dead.toNat l[i].cost) := fun hyes i hi hik => by
            by_cases he : i = k
            · subst he; exact hyes
            · exact HR.out i hi (by omega)
          clear HR
          generalize l[k] = t at *
          obtain ⟨C, P, D⟩ := t
          simp only at hr c0 c1 c2 HN HY
          obtain ⟨p, rfl⟩ := Int.eq_ofNat_of_zero_le (show 0 ≤ P by omega)
          obtain ⟨D, rfl⟩ := Int.eq_ofNat_of_zero_le (show 0 ≤ D by omega)
          rw [Int.toNat_natCast, Int.toNat_natCast] at HN HY
          have hp1 : 1 ≤ p := by omega
          have hpn : ¬ (p : Int) = 0 := by omega
          have e1 : (T.length : Int) % (p : Int) = ((T.length % p : Nat) : Int) := by rw [Int.natCast_emod]
          have hpl := Nat.mod_lt T.length hp1
          have HQ := Lib.hid (rfl : T.length % p = T.length % p)
          generalize hqe : T.length % p = q at *
          have HQE := Lib.hid hqe
          clear hqe HQ
          by_cases hq : q = 0
          · subst hq
            go_wp2_with fail
            go_loop [7, 8, 9] (fun v7 v8 _ => ∃ (n : Nat) (had : Int), n ≤ T.length ∧ v8 = .int .i64 n ∧ v7 = .int .i64 had ∧ 0 ≤ had ∧ had ≤ n ∧ Hid (Inv T k p D C n had)) (fun _ v8 _ => T.length - (intOf v8).toNat)
            case atStart => exact ⟨0, 0, Nat.zero_le _, rfl, rfl, Int.le_refl _, by omega, inv_zero _ _ _ _ _⟩
            case round =>
              obtain ⟨n, had, hn, rfl, rfl, hh0, hh1, HV⟩ := hrel
              by_cases hnl : n < T.length
              · obtain ⟨bz, oz, rfl, cz⟩ := hz.int_at hnl
                rw [← tAt_eq] at cz
                have n0 : (0 : Int) ≤ (n : Int) := by omega
                have n1 : (n : Int) < (T.length : Int) := by omega
                have e2 : (n : Int) % (p : Int) = ((n % p : Nat) : Int) := by rw [Int.natCast_emod]
                have hrp := Nat.mod_lt n hp1
                obtain ⟨h0, hh⟩ : ∃ h0, (if n % p = 0 then 0 else had) = h0 := ⟨_, rfl⟩
                have hb0 : 0 ≤ h0 ∧ h0 ≤ n := by rw [← hh]; split <;> omega
                have HSN : Hid (stepK k p D C (n % p) had (tAt T n) = none → K = false) := fun hs => HN.out (inv_bad hp1 hnl HV.out hs)
                have HSS : Hid (∀ had', stepK k p D C (n % p) had (tAt T n) = some had' → Inv T k p D C (n + 1) had') := fun had' hs => inv_step hp1 HV.out hs
                have HST := Lib.hid (stepK_in (i := (k : Int)) (P := p) (D := D) (C := C) (x := tAt T n) hh)
                clear HV
                generalize stepK k p D C (n % p) had (tAt T n) = st at *
                generalize n % p = r at *
                generalize tAt T n = x at *
                go_upto_if 60 with (fail)
                go_cut [7, 9] (fun s7 s9 wx => s7 = .int .i64 h0 ∧ s9 = .int .i64 r ∧ wx = w)
                case first =>
                  by_cases hr0 : r = 0
                  · subst hr0
                    rw [if_pos rfl] at hh
                    subst hh
                    go_wp2_with fail
                    go_meet
                    exact ⟨rfl, rfl, rfl⟩
                  · rw [if_neg hr0] at hh
                    subst hh
                    have hr0' : ((r : Int) == 0) = false := beq_eq_false_iff_ne.2 (by omega)
                    go_wp2_with fail
                    go_meet
                    exact ⟨rfl, rfl, rfl⟩
                obtain ⟨rfl, rfl, rfl⟩ := hcut
                clear hh e2
                have hi1 : IntKind.i64.wrap ((p : Int) - 1) = (p : Int) - 1 := IntWalk.i64_in _ (by omega)
                by_cases hx : x = (k : Int)
                · rw [if_pos hx] at HST
                  have hxe : (x == (k : Int)) = true := beq_iff_eq.2 hx
                  have HX := Lib.hid hx
                  clear hx
                  by_cases hD : (D : Int) ≤ (r : Int)
                  · have HF := Lib.hid (HSN.out (by rw [HST.out, if_pos (.inl (by omega))]))
                    clear HST HSN HSS HN HY
                    go_wp2_with fail
                    go_ret
                    exact ⟨ret_bool HF.out.symm, rfl⟩
                  · have hD' : (r : Int) < (D : Int) := by omega
                    by_cases hC : C < h0 + 1
                    · have HF := Lib.hid (HSN.out (by rw [HST.out, if_pos (.inr hC)]))
                      clear HST HSN HSS HN HY
                      go_wp2_with fail
                      go_ret
                      exact ⟨ret_bool HF.out.symm, rfl⟩
                    · have hC' : h0 + 1 ≤ C := by omega
                      rw [if_neg (by omega)] at HST
                      by_cases hE : r + 1 = p
                      · have hE' : ((r : Int) == (p : Int) - 1) = true := beq_iff_eq.2 (by omega)
                        by_cases hF : h0 + 1 = C
                        · have HI := Lib.hid (HSS.out (h0 + 1) (by rw [HST.out, if_neg (fun h => h.2 hF)]))
                          have hF' : (h0 + 1 != C) = false := by simp [hF]
                          have HFF := Lib.hid hF
                          clear HST HSN HSS HN HY hF
                          go_wp2_with fail
                          go_round
                          case rel => exact ⟨n + 1, h0 + 1, by omega, by go_num, rfl, by omega, by omega, HI.out⟩
                          case measure => simp [intOf]; omega
                        · have HF := Lib.hid (HSN.out (by rw [HST.out, if_pos ⟨hE, hF⟩]))
                          have hF' : (h0 + 1 != C) = true := by simp [hF]
                          clear HST HSN HSS HN HY
                          go_wp2_with fail
                          go_ret
                          exact ⟨ret_bool HF.out.symm, rfl⟩
                      · have HI := Lib.hid (HSS.out (h0 + 1) (by rw [HST.out, if_neg (fun h => hE h.1)]))
                        have hE' : ((r : Int) == (p : Int) - 1) = false := beq_eq_false_iff_ne.2 (by omega)
                        clear HST HSN HSS HN HY
                        go_wp2_with fail
                        go_round
                        case rel => exact ⟨n + 1, h0 + 1, by omega, by go_num, rfl, by omega, by omega, HI.out⟩
                        case measure => simp [intOf]; omega
                · rw [if_neg hx] at HST
                  have hxe : (x == (k : Int)) = false := beq_eq_false_iff_ne.2 hx
                  by_cases hE : r + 1 = p
                  · have hE' : ((r : Int) == (p : Int) - 1) = true := beq_iff_eq.2 (by omega)
                    by_cases hF : h0 = C
                    · have HI := Lib.hid (HSS.out h0 (by rw [HST.out, if_neg (fun h => h.2 hF)]))
                      have hF' : (h0 != C) = false := by simp [hF]
                      have HFF := Lib.hid hF
                      clear HST HSN HSS HN HY hF
                      go_wp2_with fail
                      go_round
                      case rel => exact ⟨n + 1, h0, by omega, by go_num, rfl, by omega, by omega, HI.out⟩
                      case measure => simp [intOf]; omega
                    · have HF := Lib.hid (HSN.out (by rw [HST.out, if_pos ⟨hE, hF⟩]))
                      have hF' : (h0 != C) = true := by simp [hF]
                      clear HST HSN HSS HN HY
                      go_wp2_with fail
                      go_ret
                      exact ⟨ret_bool HF.out.symm, rfl⟩
                  · have HI := Lib.hid (HSS.out h0 (by rw [HST.out, if_neg (fun h => hE h.1)]))
                    have hE' : ((r : Int) == (p : Int) - 1) = false := beq_eq_false_iff_ne.2 (by omega)
                    clear HST HSN HSS HN HY
                    go_wp2_with fail
                    go_round
                    case rel => exact ⟨n + 1, h0, by omega, by go_num, rfl, by omega, by omega, HI.out⟩
                    case measure => simp [intOf]; omega
              · obtain rfl : n = T.length := by omega
                have HG := Lib.hid (HY.out (inv_end hp1 HQE.out HV.out))
                go_wp2_with fail
                go_round
                case rel => exact ⟨k + 1, by omega, by go_num, HG.out⟩
                case measure => simp [intOf]; omega
          · have HF := Lib.hid (HN.out (fun h => hq (by rw [← HQE.out]; exact h.1)))
            have hq' : ((q : Int) != 0) = true := by simp [hq]
            clear HN HY
            go_wp2_with fail
            go_ret
            exact ⟨ret_bool HF.out.symm, rfl⟩
        · obtain rfl : k = l.length := by omega
          have HF := Lib.hid (HKT.out ⟨hT1, hT2, fun n h => HK.out n h h, fun i h => HR.out i h h⟩)
          clear HKF HKT
          go_wp2_with fail
          go_ret
          exact ⟨ret_bool HF.out.symm, rfl⟩
end Go.Proofs.Ytkhbnklaglnfdaa
