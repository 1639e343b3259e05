/- Walks: which schedules keep all deadlines. -/
import Derived.Test.YtefeekdnhiggoaaW5
import Derived.Test.YtefeekdnhiggoaaM2
namespace Go.Proofs.Ytefeekdnhiggoaa
open Go.RowKit

noncomputable def meetsB (l : List Job) (s : List Int) : Bool := rightJ l && @decide (MeetsP l s) (Classical.propDecidable _)
theorem meetsB_no {l : List Job} {s : List Int} (h : ¬ MeetsP l s) : meetsB l s = false := by unfold meetsB; rw [@decide_eq_false _ (Classical.propDecidable _) h]; simp
theorem meetsB_yes {l : List Job} {s : List Int} (hr : rightJ l = true) (h : MeetsP l s) : meetsB l s = true := by unfold meetsB; rw [@decide_eq_true _ (Classical.propDecidable _) h, hr]; rfl
theorem meetsB_t {l : List Job} {s : List Int} (h : meetsB l s = true) : rightJ l = true ∧ MeetsP l s := by
  unfold meetsB at h
  rw [Bool.and_eq_true] at h
  exact ⟨h.1, @of_decide_eq_true _ (Classical.propDecidable _) h.2⟩
theorem getD_lt {s : List Int} {u : Nat} (h : u < s.length) (d : Int) : s.getD u d = s[u] := by rw [List.getD_eq_getElem?_getD, List.getElem?_eq_getElem h]; rfl
theorem getD_out {s : List Int} {u : Nat} (h : ¬ u < s.length) (d : Int) : s.getD u d = d := by rw [List.getD_eq_getElem?_getD, List.getElem?_eq_none (by omega)]; rfl
theorem cnt_top (s : List Int) (x : Int) : ∀ t, cnt s x t ≤ t
  | 0 => Nat.le_refl _
  | t + 1 => by have := cnt_top s x t; rw [cnt]; split <;> omega

/-- a job has its ticks -/
def Has (l : List Job) (s : List Int) (i : Nat) : Prop := ∀ h : i < l.length, (∀ u : Nat, s.getD u (-1) = (i : Int) → l[i].come ≤ u ∧ (u : Int) < l[i].dead) ∧ (cnt s i s.length : Int) = l[i].cost
theorem has_all {l : List Job} {s : List Int} (h1 : ∀ u, u < s.length → s.getD u (-1) < (l.length : Int)) (h2 : ∀ i, i < l.length → Has l s i) : MeetsP l s :=
  ⟨fun u => by by_cases h : u < s.length; exact h1 u h; rw [getD_out h]; omega, fun i h => h2 i h h⟩

set_option maxRecDepth 100000 in
set_option maxHeartbeats 4000000 in
theorem refMeets_any (A B : Option Addr) (js : List Job) (s : List Int) (c d : Nat) (w : World) (hs : Sl eJ 3 w A js) (ht : Sl eI 1 w B s) (hl : js.length ≤ 40) (hl2 : s.length ≤ 100000) :
    Calls Try.prog 17 #[.slice A js.length c, .slice B s.length d] w fun e w' => e = .returned (.bool (meetsB js s)) ∧ Below w.heap.size w w' := by
  cases hr : rightJ js
  · have HM : meetsB js s = false := by unfold meetsB; rw [hr]; rfl
    rw [HM]
    clear HM
    go_enter Try.func17, Try.ntmps17
    go_wp2_with (go_at_call 11; refine (refRight_any _ _ _ _ hs (by omega)).mono ?_; rintro e w2 ⟨rfl, hB⟩; rw [hr])
    go_ret
    exact ⟨rfl, hB⟩
  · have HR := Lib.hid hr
    go_enter Try.func17, Try.ntmps17
    go_wp2_with (go_at_call 11; refine (refRight_any _ _ _ _ hs (by omega)).mono ?_; rintro e w2 ⟨rfl, hB⟩; rw [hr])
    clear hr
    go_loopw [5] (fun i wr => ∃ k : Nat, k ≤ s.length ∧ i = .int .i64 k ∧ Hid (∀ u, u < k → s.getD u (-1) < (js.length : Int)) ∧ Below w.heap.size w wr) (fun i _ => s.length - (intOf i).toNat)
    case atStart => exact ⟨0, Nat.zero_le _, rfl, fun u hu => by omega, hB⟩
    case round =>
      clear hB
      obtain ⟨k, hk, rfl, HU, hB⟩ := hrel
      by_cases hlt : k < s.length
      · obtain ⟨b, off, rfl, c0⟩ := (ht.keep hB).int_at hlt
        by_cases hx : (js.length : Int) ≤ s[k]
        · have HM : Hid (meetsB js s = false) := meetsB_no (fun h => by have := h.1 k; rw [getD_lt hlt] at this; omega)
          go_wp2
          go_ret
          rw [HM.out]
          exact ⟨rfl, hB⟩
        · have HU2 : Hid (∀ u, u < k + 1 → s.getD u (-1) < (js.length : Int)) := fun u hu => by
            by_cases he : u = k
            · subst he; rw [getD_lt hlt]; omega
            · exact HU.out u (by omega)
          go_wp2
          go_roundw
          case rel => exact ⟨k + 1, by omega, by go_num, HU2.out, hB⟩
          case measure => simp [intOf]; omega
      · obtain rfl : k = s.length := by omega
        go_wp2
        go_loopw [6] (fun i wr => ∃ k : Nat, k ≤ js.length ∧ i = .int .i64 k ∧ Hid (∀ i, i < k → Has js s i) ∧ Below w.heap.size w wr) (fun i _ => js.length - (intOf i).toNat)
        case atStart => exact ⟨0, Nat.zero_le _, rfl, fun u hu => by omega, hB⟩
        case round =>
          clear hB
          obtain ⟨k, hk, rfl, HH, hB⟩ := hrel
          by_cases hlt : k < js.length
          · obtain ⟨b, off, rfl, c0, c1, c2⟩ := (hs.keep hB).job_at hlt
            have k0 : (0 : Int) ≤ (k : Int) := by omega
            have k1 : (k : Int) < (js.length : Int) := by omega
            go_wp2
            go_loopw [7, 8] (fun n i wr => ∃ m : Nat, m ≤ s.length ∧ i = .int .i64 m ∧ n = .int .i64 (cnt s k m : Int) ∧ Hid (∀ u : Nat, u < m → s.getD u (-1) = (k : Int) → js[k].come ≤ u ∧ (u : Int) < js[k].dead) ∧ Below w.heap.size w wr) (fun _ i _ => s.length - (intOf i).toNat)
            case atStart => exact ⟨0, Nat.zero_le _, rfl, rfl, fun u hu => by omega, hB⟩
            case round =>
              clear hB c0 c1 c2
              obtain ⟨m, hm, rfl, rfl, HC, hB⟩ := hrel
              obtain ⟨b', off', hA', c0, c1, c2⟩ := (hs.keep hB).job_at hlt
              injection hA' with hA'
              injection hA' with e1 e2
              subst e1 e2
              by_cases hmlt : m < s.length
              · obtain ⟨b2, off2, rfl, x0⟩ := (ht.keep hB).int_at hmlt
                have hct := cnt_top s k m
                have HG : Hid (s.getD m (-1) = s[m]) := getD_lt hmlt _
                have HS : Hid (cnt s k (m + 1) = cnt s k m + if s[m] = (k : Int) then 1 else 0) := by unfold Hid; rw [cnt, HG.out]
                by_cases hx : s[m] = (k : Int)
                · by_cases hc : js[k].come ≤ m ∧ (m : Int) < js[k].dead
                  · have HC2 : Hid (∀ u : Nat, u < m + 1 → s.getD u (-1) = (k : Int) → js[k].come ≤ u ∧ (u : Int) < js[k].dead) := fun u hu he => by
                      by_cases hum : u = m
                      · subst hum; exact hc
                      · exact HC.out u (by omega) he
                    obtain ⟨hc1, hc2⟩ := hc
                    have HS2 : Hid (cnt s k (m + 1) = cnt s k m + 1) := by unfold Hid; rw [HS.out, if_pos hx]
                    rw [hx] at x0
                    clear hx
                    generalize hcn : cnt s k m = cn at *
                    clear hcn
                    go_wp2
                    go_roundw
                    case rel => exact ⟨m + 1, by omega, by go_num, by rw [HS2.out]; go_num, HC2.out, hB⟩
                    case measure => simp [intOf]; omega
                  · have HM : Hid (meetsB js s = false) := meetsB_no (fun h => hc ((h.2 k hlt).1 m (by rw [HG.out]; exact hx)))
                    rw [hx] at x0
                    clear hx
                    by_cases hc1 : js[k].come ≤ m
                    · have hc2 : js[k].dead ≤ m := by omega
                      clear hc
                      go_wp2
                      go_ret
                      rw [HM.out]
                      exact ⟨rfl, hB⟩
                    · clear hc
                      go_wp2
                      go_ret
                      rw [HM.out]
                      exact ⟨rfl, hB⟩
                · have HC2 : Hid (∀ u : Nat, u < m + 1 → s.getD u (-1) = (k : Int) → js[k].come ≤ u ∧ (u : Int) < js[k].dead) := fun u hu he => by
                    by_cases hum : u = m
                    · subst hum; rw [HG.out] at he; exact absurd he hx
                    · exact HC.out u (by omega) he
                  have HS2 : Hid (cnt s k (m + 1) = cnt s k m) := by unfold Hid; rw [HS.out, if_neg hx]; rfl
                  generalize hcn : cnt s k m = cn at *
                  clear hcn
                  have hxb : (s[m] == (k : Int)) = false := by simp [hx]
                  go_wp2
                  go_roundw
                  case rel => exact ⟨m + 1, by omega, by go_num, by rw [HS2.out], HC2.out, hB⟩
                  case measure => simp [intOf]; omega
              · obtain rfl : m = s.length := by omega
                by_cases hn : (cnt s k s.length : Int) = js[k].cost
                · have HH2 : Hid (∀ i, i < k + 1 → Has js s i) := fun i hi => by
                    by_cases he : i = k
                    · subst he
                      exact fun _ => ⟨fun u hu => by
                        by_cases h : u < s.length
                        · exact HC.out u h hu
                        · rw [getD_out h] at hu; omega, hn⟩
                    · exact HH.out i (by omega)
                  have hnb : ((cnt s k s.length : Int) != js[k].cost) = false := by simp [hn]
                  go_wp2
                  go_roundw
                  case rel => exact ⟨k + 1, by omega, by go_num, HH2.out, hB⟩
                  case measure => simp [intOf]; omega
                · have HM : Hid (meetsB js s = false) := meetsB_no (fun h => hn (h.2 k hlt).2)
                  have hnb : ((cnt s k s.length : Int) != js[k].cost) = true := by simp [hn]
                  go_wp2
                  go_ret
                  rw [HM.out]
                  exact ⟨rfl, hB⟩
          · obtain rfl : k = js.length := by omega
            have HM : Hid (meetsB js s = true) := meetsB_yes HR.out (has_all HU.out HH.out)
            go_wp2
            go_ret
            rw [HM.out]
            exact ⟨rfl, hB⟩
end Go.Proofs.Ytefeekdnhiggoaa
