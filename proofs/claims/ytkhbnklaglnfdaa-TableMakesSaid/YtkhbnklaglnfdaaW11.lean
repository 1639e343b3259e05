/- Walk: the statement TableMakes. -/
import Derived.Test.YtkhbnklaglnfdaaW10
import Derived.Test.YtkhbnklaglnfdaaBW1
namespace Go.Proofs.Ytkhbnklaglnfdaa
open Go.RowKit Go.Lib

set_option maxRecDepth 100000 in
set_option maxHeartbeats 4000000 in
theorem make_no (A : Option Addr) (l : List Tk) (c : Nat) (m : Int) (w : World) (hs : Sl eT 3 w A l) (hm : l.length ≤ 9223372036854775807) (h : ¬ (allT l = true ∧ 1 ≤ m ∧ m ≤ 4096)) :
    Calls Try.prog 12 #[.slice A l.length c, .int .i64 m] w fun e w' => e = .returned (.tuple #[.slice none 0 0, .int .i64 1]) ∧ Below w.heap.size w w' := by
  have HA := Lib.hid (tAll_any A l c w hs hm)
  cases ha : allT l
  · rw [ha] at HA
    clear h ha
    go_enter Try.func12, Try.ntmps12
    go_wp2_with (go_at_call 18; (with_reducible refine HA.out.mono ?_); rintro e w2 ⟨rfl, hB⟩)
    go_ret2
    exact ⟨rfl, hB⟩
  · rw [ha] at HA h
    by_cases h1 : m < 1
    · clear h ha
      go_enter Try.func12, Try.ntmps12
      go_wp2_with (go_at_call 18; (with_reducible refine HA.out.mono ?_); rintro e w2 ⟨rfl, hB⟩)
      go_ret2
      exact ⟨rfl, hB⟩
    · have h2 : 4096 < m := by
        rcases Int.lt_or_le 4096 m with h2 | h2
        · exact h2
        · exact absurd ⟨rfl, by omega, h2⟩ h
      clear h ha
      go_enter Try.func12, Try.ntmps12
      go_wp2_with (go_at_call 18; (with_reducible refine HA.out.mono ?_); rintro e w2 ⟨rfl, hB⟩)
      go_ret2
      exact ⟨rfl, hB⟩
theorem mk_no {l : List Tk} {m : Nat} {w : World} {e : Ending} {w' : World} (h : makeM l m = none) (k : MkRet l m w e w') : e = .returned (.tuple #[.slice none 0 0, .int .i64 24]) ∧ Below w.heap.size w w' := by
  obtain ⟨h1, h2⟩ := k
  rw [h] at h2
  exact ⟨h2, h1⟩
theorem mk_yes {l : List Tk} {m : Nat} {w : World} {e : Ending} {w' : World} {T : List Int} (h : makeM l m = some T) (k : MkRet l m w e w') : ∃ (O : Option Addr) (d : Nat), e = .returned (.tuple #[.slice O T.length d, .int .i64 0]) ∧ Own eI 1 w' w.heap.size 3 O d T ∧ Below w.heap.size w w' := by
  obtain ⟨h1, h2⟩ := k
  rw [h] at h2
  obtain ⟨O, d, h3, h4⟩ := h2
  exact ⟨O, d, h3, h4, h1⟩
theorem badV_zero {l : List Tk} {n : Nat} (h : allT l = true) (hn : n ≤ 1048576) (hb : ∀ k : Nat, k < n + 1 → badP l (k : Int) = false) : Busy.badV l n = 0 := Busy.bad_none (Busy.okN_t h (by omega) (by omega)) hb
theorem badV_pos {l : List Tk} {n : Nat} (h : allT l = true) (hn : n ≤ 1048576) (hb : ¬ ∀ k : Nat, k < n + 1 → badP l (k : Int) = false) : 0 < Busy.badV l n := by
  rcases Nat.eq_zero_or_pos (Busy.badV l n) with h0 | h0
  · exfalso
    refine hb fun k hk => ?_
    cases hp : badP l (k : Int)
    · rfl
    · exfalso
      obtain ⟨j, hj1, hj2, hj3⟩ : ∃ j : Nat, j < n + 1 ∧ badP l (j : Int) = true ∧ ∀ i : Nat, i < j → badP l (i : Int) = false := by
        induction k using Nat.strongRecOn with
        | ind k ih =>
          by_cases he : ∃ i, i < k ∧ badP l ((i : Nat) : Int) = true
          · obtain ⟨i, hi, hb2⟩ := he
            exact ih i hi (by omega) hb2
          · refine ⟨k, hk, hp, fun i hi => ?_⟩
            cases hq : badP l (i : Int)
            · rfl
            · exact absurd ⟨i, hi, hq⟩ he
      have h1 := Busy.bad_hit (Busy.okN_t h (by omega) (by omega)) (show j ≤ n by omega) hj2 hj3
      rw [h0] at h1
      subst h1
      have h2 := of_decide_eq_true hj2
      rw [show ((0 : Nat) : Int) = 0 from rfl, demL_zero (allT_mem h)] at h2
      omega
  · exact h0

set_option maxRecDepth 100000 in
set_option maxHeartbeats 8000000 in
theorem makes_any (A : Option Addr) (l : List Tk) (c : Nat) (m : Int) (w : World) (hs : Sl eT 3 w A l) (hm : l.length ≤ 9223372036854775807) :
    Calls Try.prog 5 #[.slice A l.length c, .int .i64 m] w fun e w' => e = .returned (.bool true) ∧ Below w.heap.size w w' := by
  have hB := Below.refl w.heap.size w
  by_cases h1 : 12 < l.length
  · have h1' : (12 : Int) < (l.length : Int) := by omega
    go_enter Try.func5, Try.ntmps5
    go_wp2_with (first | (go_at_call 8; (with_reducible refine (awake_any _).mono ?_); rintro e w5 ⟨rfl, hb⟩; replace hB := bstep hB (Nat.le_refl _) hb; clear hb))
    go_ret
    exact ⟨rfl, hB⟩
  have h1' : (l.length : Int) ≤ 12 := by omega
  by_cases h2 : 500 < m ∧ m ≤ 4096
  · obtain ⟨h2, h3⟩ := h2
    go_enter Try.func5, Try.ntmps5
    go_wp2_with (first | (go_at_call 8; (with_reducible refine (awake_any _).mono ?_); rintro e w5 ⟨rfl, hb⟩; replace hB := bstep hB (Nat.le_refl _) hb; clear hb))
    go_ret
    exact ⟨rfl, hB⟩
  have HA := Lib.hid (fun W hW => qAll_any A l c W hW hm)
  by_cases hok : allT l = true ∧ 1 ≤ m ∧ m ≤ 4096
  · obtain ⟨hall, h3, h4⟩ := hok
    have h5 : m ≤ 500 := by omega
    obtain ⟨M, rfl⟩ := Int.eq_ofNat_of_zero_le (show 0 ≤ m by omega)
    have hM1 : 1 ≤ M := by omega
    have hM5 : M ≤ 500 := by omega
    rw [hall] at HA
    have HP := Lib.hid (fun W hW => make_yes A l c M W hW hm hall hM1 (by omega))
    have HQ := Lib.hid (fun W hW => rmake_any A l c M W hW hall hM1 hM5)
    have HY := Lib.hid (fun W hW => rhyp_any A l c M W hW hall hM1 (by omega))
    clear h2 h3 h4 h1
    cases hmk : makeM l M with
    | none =>
      have HP2 := Lib.hid (fun W hW => (HP.out W hW).mono fun e w' k => mk_no hmk k)
      have HQ2 := Lib.hid (fun W hW => (HQ.out W hW).mono fun e w' k => mk_no hmk k)
      have HSm : Hid (∀ W, Calls Try.prog 15 #[.slice none 0 0, .slice none 0 0] W fun e w' => e = .returned (.bool true) ∧ Below W.heap.size W w') := fun W => by
        have := same_any none none [] [] 0 0 W (Sl.nil _ _) (Sl.nil _ _) (by simp) (by simp)
        exact this
      clear HP HQ
      cases hh : hypM l M l.length with
      | none =>
        rw [hh] at HY
        simp only [hypT, Option.getD_none, Option.isSome_none] at HY
        clear hh hmk hall
        go_enter Try.func5, Try.ntmps5
        go_wp2_with (first | (go_at_call 8; (with_reducible refine (awake_any _).mono ?_); rintro e w5 ⟨rfl, hb⟩; replace hB := bstep hB (Nat.le_refl _) hb; clear hb) | (go_at_call 12; (with_reducible refine (HP2.out _ (hs.keep hB)).mono ?_); rintro e w5 ⟨rfl, hb⟩; replace hB := bstep hB (Nat.le_refl _) hb; clear hb) | (go_at_call 6; (with_reducible refine (HA.out _ (hs.keep hB)).mono ?_); rintro e w5 ⟨rfl, hb⟩; replace hB := bstep hB (Nat.le_refl _) hb; clear hb) | (go_at_call 13; (with_reducible refine (HQ2.out _ (hs.keep hB)).mono ?_); rintro e w5 ⟨rfl, hb⟩; replace hB := bstep hB (Nat.le_refl _) hb; clear hb) | (go_at_call 14; (with_reducible refine (HY.out _ (hs.keep hB)).mono ?_); rintro e w5 ⟨rfl, rfl⟩) | (go_at_call 15; (with_reducible refine (HSm.out _).mono ?_); rintro e w5 ⟨rfl, hb⟩; replace hB := bstep hB (Nat.le_refl _) hb; clear hb))
        go_ret
        exact ⟨rfl, hB⟩
      | some n =>
        rw [hh] at HY
        simp only [hypT, Option.getD_some, Option.isSome_some] at HY
        have hr := hyp_pos (allT_mem hall) hM1 (Nat.le_refl _) hh
        have hbp := badV_pos hall (show n ≤ 1048576 by omega) (fun hb => by
          have := (make_bad (rnd_of (allT_mem hall) hh) hr.1 (by omega) hh).2 hb
          rw [hmk] at this
          cases this)
        have HBd := Lib.hid (fun W hW => Busy.bad_any A l c n W hW hm)
        unfold Busy.numV at HBd
        rw [decide_eq_true hbp] at HBd
        generalize Busy.badV l n = bv at *
        clear hh hmk hall hbp
        go_enter Try.func5, Try.ntmps5
        go_wp2_with (first | (go_at_call 8; (with_reducible refine (awake_any _).mono ?_); rintro e w5 ⟨rfl, hb⟩; replace hB := bstep hB (Nat.le_refl _) hb; clear hb) | (go_at_call 12; (with_reducible refine (HP2.out _ (hs.keep hB)).mono ?_); rintro e w5 ⟨rfl, hb⟩; replace hB := bstep hB (Nat.le_refl _) hb; clear hb) | (go_at_call 6; (with_reducible refine (HA.out _ (hs.keep hB)).mono ?_); rintro e w5 ⟨rfl, hb⟩; replace hB := bstep hB (Nat.le_refl _) hb; clear hb) | (go_at_call 13; (with_reducible refine (HQ2.out _ (hs.keep hB)).mono ?_); rintro e w5 ⟨rfl, hb⟩; replace hB := bstep hB (Nat.le_refl _) hb; clear hb) | (go_at_call 14; (with_reducible refine (HY.out _ (hs.keep hB)).mono ?_); rintro e w5 ⟨rfl, rfl⟩) | (go_at_call 15; (with_reducible refine (HSm.out _).mono ?_); rintro e w5 ⟨rfl, hb⟩; replace hB := bstep hB (Nat.le_refl _) hb; clear hb) | (go_at_call 16; (with_reducible refine (HBd.out _ (hs.keep hB)).mono ?_); rintro e w5 ⟨rfl, hb⟩; replace hB := bstep hB (Nat.le_refl _) hb; clear hb))
        go_ret
        exact ⟨rfl, hB⟩
    | some T =>
      have HP2 := Lib.hid (fun W hW => (HP.out W hW).mono fun e w' k => mk_yes hmk k)
      have HQ2 := Lib.hid (fun W hW => (HQ.out W hW).mono fun e w' k => mk_yes hmk k)
      clear HP HQ
      cases hh : hypM l M l.length with
      | none =>
        rw [make_hyp hh] at hmk
        cases hmk
      | some n =>
        rw [hh] at HY
        simp only [hypT, Option.getD_some, Option.isSome_some] at HY
        have hr := hyp_pos (allT_mem hall) hM1 (Nat.le_refl _) hh
        have R := rnd_of (allT_mem hall) hh
        have hk := make_keeps R hr.1 (by omega) hh hmk
        have hbp := badV_zero hall (show n ≤ 1048576 by omega) ((make_bad R hr.1 (by omega) hh).1 (by rw [hmk]; rfl))
        have HBd := Lib.hid (fun W hW => Busy.bad_any A l c n W hW hm)
        unfold Busy.numV at HBd
        rw [hbp, show decide (0 < 0) = false from rfl] at HBd
        have hT5 : T.length ≤ 500 := by omega
        have HSm := Lib.hid (fun W O d O2 d2 (h : Sl eI 1 W O T) (h2 : Sl eI 1 W O2 T) => same_any O O2 T T d d2 W h h2 (by omega) (by omega))
        rw [show sameL T T = true from decide_eq_true rfl] at HSm
        have HK1 := Lib.hid (fun W hW B O d (h : Own eI 1 W B 3 O d T) => tKeeps_any A l c O T d W hW hm (h.sl eI_ok) (by omega) h.cap)
        have HK2 := Lib.hid (fun W hW O d (h : Sl eI 1 W O T) => rKeeps_any A l c O T d W hW h (by omega) hall)
        rw [hall, keepsB_t hk.2] at HK1
        rw [keepsB_t hk.2] at HK2
        simp only [Bool.and_true] at HK1
        obtain ⟨tl, htl⟩ : ∃ tl, tl = T.length := ⟨_, rfl⟩
        rw [← htl] at HP2 HQ2 HSm HK1 HK2 hT5
        clear hh hmk hall hbp hk R htl
        go_enter Try.func5, Try.ntmps5
        go_wp2_with (first | (go_at_call 6; (with_reducible refine (HA.out _ (hs.keep hB)).mono ?_); rintro e w5 ⟨rfl, hb⟩; replace hB := bstep hB (Nat.le_refl _) hb; (have hO5 := hO.keep hb); clear hb) | (go_at_call 12; (with_reducible refine (HP2.out _ (hs.keep hB)).mono ?_); rintro e w5 ⟨O, d, rfl, hO, hb⟩; replace hB := bstep hB (Nat.le_refl _) hb; clear hb) | (go_at_call 13; (with_reducible refine (HQ2.out _ (hs.keep hB)).mono ?_); rintro e w6 ⟨O2, d2, rfl, hO2, hb⟩; replace hB := bstep hB (Nat.le_refl _) hb; (have hO6 := hO5.keep hb); clear hb) | (go_at_call 14; (with_reducible refine (HY.out _ (hs.keep hB)).mono ?_); rintro e w5 ⟨rfl, rfl⟩) | (go_at_call 15; (with_reducible refine (HSm.out _ _ _ _ _ (hO6.sl eI_ok) (hO2.sl eI_ok)).mono ?_); rintro e w7 ⟨rfl, hb⟩; replace hB := bstep hB (Nat.le_refl _) hb; (have hO7 := hO6.keep hb); clear hb) | (go_at_call 16; (with_reducible refine (HBd.out _ (hs.keep hB)).mono ?_); rintro e w8 ⟨rfl, hb⟩; replace hB := bstep hB (Nat.le_refl _) hb; (have hO8 := hO7.keep hb); clear hb) | (go_at_call 10; (with_reducible refine (HK1.out _ (hs.keep hB) _ _ _ hO8).mono ?_); rintro e w9 ⟨rfl, hb⟩; replace hB := bstep hB (Nat.le_refl _) hb; (have hO9 := hO8.keep hb); clear hb) | (go_at_call 7; (with_reducible refine (HK2.out _ (hs.keep hB) _ _ (hO9.sl eI_ok)).mono ?_); rintro e w10 ⟨rfl, rfl⟩) | (go_at_call 8; (with_reducible refine (awake_any _).mono ?_); rintro e w11 ⟨rfl, hb⟩; replace hB := bstep hB (Nat.le_refl _) hb; clear hb))
        go_ret
        exact ⟨rfl, hB⟩
  · have HP := Lib.hid (fun W hW => make_no A l c m W hW hm hok)
    cases hall : allT l
    · rw [hall] at HA
      clear hok hall
      have hmm : m ≤ 500 ∨ 4096 < m := by omega
      rcases hmm with hmm | hmm
      all_goals
        go_enter Try.func5, Try.ntmps5
        go_wp2_with (first | (go_at_call 12; (with_reducible refine (HP.out _ (hs.keep hB)).mono ?_); rintro e w5 ⟨rfl, hb⟩; replace hB := bstep hB (Nat.le_refl _) hb; clear hb) | (go_at_call 6; (with_reducible refine (HA.out _ (hs.keep hB)).mono ?_); rintro e w5 ⟨rfl, hb⟩; replace hB := bstep hB (Nat.le_refl _) hb; clear hb) | (go_at_call 8; (with_reducible refine (awake_any _).mono ?_); rintro e w5 ⟨rfl, hb⟩; replace hB := bstep hB (Nat.le_refl _) hb; clear hb))
        go_ret
        exact ⟨rfl, hB⟩
    · rw [hall] at HA
      have hmm : m < 1 ∨ 4096 < m := by
        rcases Int.lt_or_le m 1 with h | h
        · exact .inl h
        · rcases Int.lt_or_le 4096 m with h3 | h3
          · exact .inr h3
          · exact absurd ⟨hall, h, h3⟩ hok
      clear hok hall
      rcases hmm with hmm | hmm
      all_goals
        go_enter Try.func5, Try.ntmps5
        go_wp2_with (first | (go_at_call 12; (with_reducible refine (HP.out _ (hs.keep hB)).mono ?_); rintro e w5 ⟨rfl, hb⟩; replace hB := bstep hB (Nat.le_refl _) hb; clear hb) | (go_at_call 6; (with_reducible refine (HA.out _ (hs.keep hB)).mono ?_); rintro e w5 ⟨rfl, hb⟩; replace hB := bstep hB (Nat.le_refl _) hb; clear hb) | (go_at_call 8; (with_reducible refine (awake_any _).mono ?_); rintro e w5 ⟨rfl, hb⟩; replace hB := bstep hB (Nat.le_refl _) hb; clear hb))
        go_ret
        exact ⟨rfl, hB⟩
end Go.Proofs.Ytkhbnklaglnfdaa
