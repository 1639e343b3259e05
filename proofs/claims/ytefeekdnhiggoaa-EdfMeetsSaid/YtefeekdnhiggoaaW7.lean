/- Walks: the program's Meets, Feasible; the statement EdfOptimal. -/
import Derived.Test.YtefeekdnhiggoaaW6
namespace Go.Proofs.Ytefeekdnhiggoaa
open Go.RowKit

def hadC (s : List Int) (n k : Nat) : List Int := (List.range n).map fun (i : Nat) => (cnt s (i : Int) k : Int)
theorem hadC_len (s : List Int) (n k : Nat) : (hadC s n k).length = n := by simp [hadC]
theorem hadC_at (s : List Int) (n k i : Nat) (h : i < (hadC s n k).length) : (hadC s n k)[i] = (cnt s i k : Int) := by simp [hadC]
theorem hadC_zero (s : List Int) (n : Nat) : hadC s n 0 = List.replicate n 0 := by
  apply List.ext_getElem
  · simp [hadC]
  · intro i h1 h2
    rw [hadC_at]
    simp [cnt]
theorem hadC_same (s : List Int) (n k : Nat) (h : s.getD k (-1) < 0) : hadC s n (k + 1) = hadC s n k := by
  apply List.ext_getElem
  · simp [hadC]
  · intro i h1 h2
    rw [hadC_at, hadC_at, cnt, if_neg (by omega)]
    rfl
theorem hadC_set (s : List Int) (n k Y : Nat) (h : s.getD k (-1) = (Y : Int)) (hY : Y < n) : hadC s n (k + 1) = (hadC s n k).set Y ((cnt s Y k : Int) + 1) := by
  apply List.ext_getElem
  · simp [hadC]
  · intro i h1 h2
    rw [hadC_at, List.getElem_set, cnt, h]
    by_cases he : Y = i
    · subst he; rw [if_pos rfl, if_pos rfl]; omega
    · rw [if_neg he, if_neg (by omega), hadC_at]; omega

set_option maxRecDepth 100000 in
set_option maxHeartbeats 4000000 in
theorem meets_any (A B : Option Addr) (js : List Job) (s : List Int) (c d : Nat) (w : World) (hs : Sl eJ 3 w A js) (ht : Sl eI 1 w B s) (hl : js.length ≤ 40) (hl2 : s.length ≤ 100000) :
    Calls Try.prog 20 #[.slice A js.length c, .slice B s.length d] w fun e w' => e = .returned (.bool (meetsB js s)) ∧ Below w.heap.size w w' := by
  cases hr : rightJ js
  · have HM : meetsB js s = false := by unfold meetsB; rw [hr]; rfl
    rw [HM]
    clear HM
    go_enter Try.func20, Try.ntmps20
    go_wp2_with (go_at_call 10; refine (right_any _ _ _ _ hs (by omega)).mono ?_; rintro e w2 ⟨rfl, hB⟩; rw [hr])
    go_ret
    exact ⟨rfl, hB⟩
  · have HR := Lib.hid hr
    obtain ⟨i0, hi0, hz0, hz1, hz2⟩ := info_parts info_int
    go_enter Try.func20, Try.ntmps20
    go_wp2_with (first | (go_at_call 10; refine (right_any _ _ _ _ hs (by omega)).mono ?_; rintro e w2 ⟨rfl, hB⟩; rw [hr]) | (at_make; refine wpList_make_full _ rfl _ _ 26 rfl w.heap.size 3 i0 _ 1 Try.underlying26 hi0 hz0 hz1 _ _ _ _ js.length rfl rfl rfl rfl (by rw [hz2]; omega) (by simp only [maxLen]; omega) hB.size ?_; intro w3 ownH hg3))
    clear hr
    replace hB := hB.grown hg3 hB.size (fun k hk => by cases hk)
    rw [made_ints, ← hadC_zero s] at ownH
    clear hg3
    generalize w2.heap.size = gh at *
    go_loopw [18] (fun i wr => ∃ k : Nat, k ≤ s.length ∧ i = .int .i64 k ∧ Hid (∀ u, u < k → s.getD u (-1) < (js.length : Int) ∧ ∀ (q : Nat) (h : q < js.length), s.getD u (-1) = (q : Int) → js[q].come ≤ u ∧ (u : Int) < js[q].dead) ∧ wr.ownsRow w.heap.size 3 1 (.slice (some ⟨gh, 0, none⟩) js.length js.length) js.length ((hadC s js.length k).flatMap eI) ∧ Below w.heap.size w wr) (fun i _ => s.length - (intOf i).toNat)
    case atStart => exact ⟨0, Nat.zero_le _, rfl, fun u hu => by omega, ownH, hB⟩
    case round =>
      clear hB ownH
      obtain ⟨k, hk, rfl, HU, ownH, hB⟩ := hrel
      by_cases hlt : k < s.length
      · obtain ⟨b, off, rfl, x0⟩ := (ht.keep hB).int_at hlt
        have HG : Hid (s.getD k (-1) = s[k]) := getD_lt hlt _
        by_cases hx : s[k] < 0
        · have HS := Lib.hid (hadC_same s js.length k (by rw [HG.out]; exact hx))
          have HU2 : Hid (∀ u, u < k + 1 → s.getD u (-1) < (js.length : Int) ∧ ∀ (q : Nat) (h : q < js.length), s.getD u (-1) = (q : Int) → js[q].come ≤ u ∧ (u : Int) < js[q].dead) := fun u hu => by
            by_cases he : u = k
            · subst he; rw [HG.out]; exact ⟨by omega, fun q _ hq => by omega⟩
            · exact HU.out u (by omega)
          go_wp2
          go_roundw
          case rel => exact ⟨k + 1, by omega, by go_num, HU2.out, by rw [HS.out]; exact ownH, hB⟩
          case measure => simp [intOf]; omega
        · obtain ⟨Y, hY⟩ := Int.eq_ofNat_of_zero_le (show 0 ≤ s[k] by omega)
          rw [hY] at x0
          have HY := Lib.hid hY
          clear hx hY
          by_cases hYl : Y < js.length
          · obtain ⟨b', off', rfl, c0, c1, c2⟩ := (hs.keep hB).job_at hYl
            have Y0 : (0 : Int) ≤ (Y : Int) := by omega
            have Y1 : (Y : Int) < (js.length : Int) := by omega
            by_cases hc : js[Y].come ≤ k ∧ (k : Int) < js[Y].dead
            · have HU2 : Hid (∀ u, u < k + 1 → s.getD u (-1) < (js.length : Int) ∧ ∀ (q : Nat) (h : q < js.length), s.getD u (-1) = (q : Int) → js[q].come ≤ u ∧ (u : Int) < js[q].dead) := fun u hu => by
                by_cases he : u = k
                · subst he
                  rw [HG.out, HY.out]
                  exact ⟨Y1, fun q _ hq => by
                    obtain rfl : Y = q := by omega
                    exact hc⟩
                · exact HU.out u (by omega)
              have HS := Lib.hid (hadC_set s js.length k Y (by rw [HG.out]; exact HY.out) hYl)
              have hct := cnt_top s Y k
              have h0 : wr.cell? ⟨gh, Y, none⟩ = some (.int .i64 (cnt s Y k : Int)) := by
                have := own_int_at ownH (hadC_len _ _ _) (i := Y) (by rw [hadC_len]; exact hYl)
                rwa [hadC_at] at this
              have hfz : wr.frozen? ⟨gh, Y, none⟩ = false := ownH.frozenAt Y
              have hgl := (ownH.lt gh rfl).2
              have hgb := (ownH.lt gh rfl).1
              obtain ⟨ownS, hgS⟩ := own_int_set ownH Y ((cnt s Y k : Int) + 1)
              have hBS : Below w.heap.size w (wr.setCell ⟨gh, Y, none⟩ (.int .i64 ((cnt s Y k : Int) + 1))) := hB.setCell hgb _
              clear hgS
              obtain ⟨hc1, hc2⟩ := hc
              generalize hcn : (cnt s Y k : Int) = cn at *
              have cn0 : 0 ≤ cn := by omega
              have cn1 : cn ≤ 100000 := by omega
              clear hcn hct
              go_wp2
              go_roundw
              case rel => exact ⟨k + 1, by omega, by go_num, HU2.out, by rw [HS.out]; exact ownS, hBS⟩
              case measure => simp [intOf]; omega
            · have HM : Hid (meetsB js s = false) := meetsB_no (fun h => hc ((h.2 Y hYl).1 k (by rw [HG.out]; exact HY.out)))
              by_cases hc1 : js[Y].come ≤ k
              · have hc2 : js[Y].dead ≤ k := by omega
                clear hc
                go_wp2
                go_ret
                rw [HM.out]
                exact ⟨rfl, hB⟩
              · clear hc
                go_wp2
                go_ret
                rw [HM.out]
                exact ⟨rfl, hB⟩
          · have HM : Hid (meetsB js s = false) := meetsB_no (fun h => by have := h.1 k; rw [HG.out, HY.out] at this; omega)
            go_wp2
            go_ret
            rw [HM.out]
            exact ⟨rfl, hB⟩
      · obtain rfl : k = s.length := by omega
        go_wp2
        go_loopw [56] (fun i wr => ∃ k : Nat, k ≤ js.length ∧ i = .int .i64 k ∧ Hid (∀ (q : Nat) (h : q < js.length), q < k → (cnt s q s.length : Int) = js[q].cost) ∧ wr.ownsRow w.heap.size 3 1 (.slice (some ⟨gh, 0, none⟩) js.length js.length) js.length ((hadC s js.length s.length).flatMap eI) ∧ Below w.heap.size w wr) (fun i _ => js.length - (intOf i).toNat)
        case atStart => exact ⟨0, Nat.zero_le _, rfl, fun q h hq => by omega, ownH, hB⟩
        case round =>
          clear hB ownH
          obtain ⟨k, hk, rfl, HH, ownH, hB⟩ := hrel
          by_cases hlt : k < js.length
          · obtain ⟨b, off, rfl, c0, c1, c2⟩ := (hs.keep hB).job_at hlt
            have k0 : (0 : Int) ≤ (k : Int) := by omega
            have k1 : (k : Int) < (js.length : Int) := by omega
            have h0 : wr.cell? ⟨gh, k, none⟩ = some (.int .i64 (cnt s k s.length : Int)) := by
              have := own_int_at ownH (hadC_len _ _ _) (i := k) (by rw [hadC_len]; exact hlt)
              rwa [hadC_at] at this
            go_wp2
            have d2 : (wr.alloc (Obj.cells #[.int .i64 js[k].come, .int .i64 js[k].dead, .int .i64 js[k].cost] 44)).cell? ⟨wr.heap.size, 2, none⟩ = some (.int .i64 js[k].cost) := by simp
            replace h0 := kcell (below1 wr (Obj.cells #[.int .i64 js[k].come, .int .i64 js[k].dead, .int .i64 js[k].cost] 44)) h0
            replace ownH := ownH.alloc (Obj.cells #[.int .i64 js[k].come, .int .i64 js[k].dead, .int .i64 js[k].cost] 44)
            replace hB := hB.alloc hB.size (Obj.cells #[.int .i64 js[k].come, .int .i64 js[k].dead, .int .i64 js[k].cost] 44)
            clear c0 c1 c2
            generalize hgw : (wr.alloc (Obj.cells #[.int .i64 js[k].come, .int .i64 js[k].dead, .int .i64 js[k].cost] 44)) = w5 at *
            clear hgw
            by_cases hn : (cnt s k s.length : Int) = js[k].cost
            · have HH2 : Hid (∀ (q : Nat) (h : q < js.length), q < k + 1 → (cnt s q s.length : Int) = js[q].cost) := fun q h hq => by
                by_cases he : q = k
                · subst he; exact hn
                · exact HH.out q h (by omega)
              have hnb : ((cnt s k s.length : Int) != js[k].cost) = false := by simp [hn]
              clear hn
              go_quiet (fail)
              go_wp2
              go_roundw
              case rel => exact ⟨k + 1, by omega, by go_num, HH2.out, ownH, bdrewN hB _⟩
              case measure => simp [intOf]; omega
            · have HM : Hid (meetsB js s = false) := meetsB_no (fun h => hn (h.2 k hlt).2)
              have hnb : ((cnt s k s.length : Int) != js[k].cost) = true := by simp [hn]
              clear hn
              go_quiet (fail)
              go_wp2
              go_ret
              rw [HM.out]
              exact ⟨rfl, bdrewN hB _⟩
          · obtain rfl : k = js.length := by omega
            have HM : Hid (meetsB js s = true) := meetsB_yes HR.out (has_all (fun u hu => (HU.out u hu).1) (fun i hi _ => ⟨fun u hu => by
              by_cases h : u < s.length
              · exact (HU.out u h).2 i hi hu
              · rw [getD_out h] at hu; omega, HH.out i hi hi⟩))
            go_wp2
            go_ret
            rw [HM.out]
            exact ⟨rfl, hB⟩
end Go.Proofs.Ytefeekdnhiggoaa
