/- Walks: the document's Holds; the statement RatioRounds. -/
import Derived.Test.YtojglionlcjkjaaW15
namespace Go.Proofs.Ytojglionlcjkjaa
open Go.RowKit

theorem wV_form (n : Nat) : ∃ a0 a1 a2 a3 : Int, wV n = .agg #[.int .u64 a0, .int .u64 a1, .int .u64 a2, .int .u64 a3] := ⟨_, _, _, _, rfl⟩
theorem prod_big {a b : Nat} (ha : a < 18446744073709551616) (hb : b < 18446744073709551616) : a * b < 340282366920938463463374607431768211456 := by
  have : a * b ≤ 18446744073709551615 * 18446744073709551615 := Nat.mul_le_mul (by omega) (by omega)
  omega
theorem pow_lt {p : Nat} (hp : p ≤ 63) : 2 ^ p < 18446744073709551616 := Nat.lt_of_le_of_lt (Nat.pow_le_pow_right (by omega) hp) (by decide)
theorem pow_next {k p : Nat} (hk : k < p) (hp : p ≤ 63) (a : Nat) (ha : a = 2 ^ k) : ∃ b : Nat, IntKind.u64.wrap ((a : Int) * 2) = (b : Int) ∧ b = 2 ^ (k + 1) := by
  subst ha
  have := pow_lt (p := k + 1) (by omega)
  refine ⟨2 ^ (k + 1), wr _ _ (.inl ?_) this, rfl⟩
  rw [Nat.pow_succ, Int.natCast_mul]
  rfl

set_option maxRecDepth 100000 in
set_option maxHeartbeats 4000000 in
theorem holds_yes (num den p n : Nat) (w : World) (h1 : num < 18446744073709551616) (h2 : den < 18446744073709551616) (hp : p ≤ 63) (hn : n < 18446744073709551616) (hge : num * 2 ^ p ≤ n * den) (hlt : n = 0 ∨ (n - 1) * den < num * 2 ^ p) :
    Calls Try.prog 22 #[.agg #[.int .u64 num, .int .u64 den], .int .i64 p, .int .u64 n] w fun e w' => e = .returned (.bool true) ∧ Below w.heap.size w w' := by
  have hB := below1 w (Obj.cells #[.int .u64 num, .int .u64 den] 24)
  have bk := Blk.new w 24 #[.int .u64 num, .int .u64 den]
  have c0 := bk.cell 0 (.int .u64 num) rfl
  have c1 := bk.cell 1 (.int .u64 den) rfl
  clear bk
  have hpw := pow_lt hp
  have HPN := Lib.hid (fun k (h : k < p) a ha => pow_next h hp a ha)
  have HT := Lib.hid (fun W => refTimes_any num (2 ^ p) W h1 hpw)
  have HT2 := Lib.hid (fun W => refTimes_any n den W hn h2)
  have HT3 := Lib.hid (fun W => refTimes_any (n - 1) den W (by omega) h2)
  have HC := Lib.hid (fun W => refCompare_any (n * den) (num * 2 ^ p) W (prod_big hn h2) (prod_big h1 hpw))
  have HC2 := Lib.hid (fun W => refCompare_any ((n - 1) * den) (num * 2 ^ p) W (prod_big (by omega) h2) (prod_big h1 hpw))
  have HG : Hid (¬ cmpI (n * den) (num * 2 ^ p) < 0) := by
    unfold Hid cmpI
    rw [if_neg (by omega)]
    split <;> omega
  have HL : Hid (n ≠ 0 → cmpI ((n - 1) * den) (num * 2 ^ p) = -1) := fun h => cmp_lt (hlt.resolve_left h)
  obtain ⟨a0, a1, a2, a3, hw⟩ := wV_form (num * 2 ^ p)
  rw [hw] at HT HC HC2
  clear hw hge hlt
  generalize wV (n * den) = wx at *
  generalize wV ((n - 1) * den) = wy at *
  generalize cmpI (n * den) (num * 2 ^ p) = cv at *
  generalize cmpI ((n - 1) * den) (num * 2 ^ p) = cy at *
  have hcv : ¬ cv < 0 := HG.out
  obtain ⟨PP, hPP⟩ : ∃ PP, PP = 2 ^ p := ⟨_, rfl⟩
  rw [← hPP] at HT
  have HPP := Lib.hid hPP
  clear hPP HG hpw
  go_enter Try.func22, Try.ntmps22
  go_wp2_with fail
  go_loop [7, 8] (fun vp vi => ∃ k a : Nat, k ≤ p ∧ vi = .int .i64 k ∧ vp = .int .u64 (a : Int) ∧ Hid (a = 2 ^ k)) (fun _ i => p - (intOf i).toNat)
  case atStart => exact ⟨0, 1, Nat.zero_le _, rfl, rfl, rfl⟩
  case round =>
    obtain ⟨k, a, hk, rfl, rfl, HA⟩ := hrel
    by_cases hkp : k < p
    · have hk1 : (k : Int) < (p : Int) := by omega
      obtain ⟨b, e1, hb2⟩ := HPN.out k hkp a HA.out; have HB2 := Lib.hid hb2; clear hb2
      go_wp2_with fail
      go_round
      case rel => exact ⟨k + 1, b, by omega, by go_num, rfl, HB2.out⟩
      case measure => simp [intOf]; omega
    · obtain rfl : k = p := by omega
      obtain rfl : a = PP := HA.out.trans HPP.out.symm
      go_wp2_with fail
      refine (HT.out _).mono ?_
      rintro e w2 ⟨rfl, hb⟩
      (replace c0 := kcell hb c0; replace c1 := kcell hb c1; replace hB := bstep hB (Nat.le_refl _) hb; clear hb)
      have bw := Blk.new w2 43 #[.int .u64 a0, .int .u64 a1, .int .u64 a2, .int .u64 a3]
      have hb := below1 w2 (Obj.cells #[.int .u64 a0, .int .u64 a1, .int .u64 a2, .int .u64 a3] 43)
      (replace c0 := kcell hb c0; replace c1 := kcell hb c1; replace hB := bstep hB (Nat.le_refl _) hb; clear hb)
      have d0 := bw.cell 0 (.int .u64 a0) rfl
      have d1 := bw.cell 1 (.int .u64 a1) rfl
      have d2 := bw.cell 2 (.int .u64 a2) rfl
      have d3 := bw.cell 3 (.int .u64 a3) rfl
      clear bw
      go_wp2_with fail
      generalize w2.alloc (Obj.cells #[.int .u64 a0, .int .u64 a1, .int .u64 a2, .int .u64 a3] 43) = w3 at *
      generalize w2.heap.size = gb at *
      (have aft_c0 := Aft.cell c0; have aft_c1 := Aft.cell c1; have aft_d0 := Aft.cell d0; have aft_d1 := Aft.cell d1; have aft_d2 := Aft.cell d2; have aft_d3 := Aft.cell d3; refine wp_region_aft (by kernel_rfl) (by kernel_rfl) ?_; (repeat (go_big_quiet_step ((first | (go_at_call 17; with_reducible exact aft_call (HT2.out _)) | (go_at_call 16; with_reducible exact aft_call (HC.out _)))))); refine wpQuiet_nil ?_; clear aft_c0 aft_c1 aft_d0 aft_d1 aft_d2 aft_d3; intro w4 hw2_; have hb := Aft.below hw2_; clear hw2_)
      (replace c0 := kcell hb c0; replace c1 := kcell hb c1; replace d0 := kcell hb d0; replace d1 := kcell hb d1; replace d2 := kcell hb d2; replace d3 := kcell hb d3; replace hB := bstep hB (Nat.le_refl _) hb; clear hb)
      by_cases hn0 : n = 0
      · have hn1 : ((n : Int) == 0) = true := by simp; omega
        clear HL
        go_wp2_with fail
        (have aft_c0 := Aft.cell c0; have aft_c1 := Aft.cell c1; have aft_d0 := Aft.cell d0; have aft_d1 := Aft.cell d1; have aft_d2 := Aft.cell d2; have aft_d3 := Aft.cell d3; refine wp_region_aft (by kernel_rfl) (by kernel_rfl) ?_; (repeat (go_big_quiet_step ((first | (go_at_call 17; with_reducible exact aft_call (HT3.out _)) | (go_at_call 16; with_reducible exact aft_call (HC2.out _)))))); refine wpQuiet_nil ?_; clear aft_c0 aft_c1 aft_d0 aft_d1 aft_d2 aft_d3; intro w5 hw2_; have hb := Aft.below hw2_; clear hw2_)
        go_wp2_with fail
        go_ret
        exact ⟨rfl, bstep hB (Nat.le_refl _) hb⟩
      · have hn1 : ((n : Int) == 0) = false := by simp; omega
        have hcy := HL.out hn0
        subst hcy
        have e1 : IntKind.u64.wrap ((n : Int) - 1) = ((n - 1 : Nat) : Int) := wr _ _ (.inl (by omega)) (by omega)
        have e2 : (n : Int) - 1 = ((n - 1 : Nat) : Int) := by omega
        generalize n - 1 = m at *
        clear hn0 HL
        go_wp2_with fail
        (have aft_c0 := Aft.cell c0; have aft_c1 := Aft.cell c1; have aft_d0 := Aft.cell d0; have aft_d1 := Aft.cell d1; have aft_d2 := Aft.cell d2; have aft_d3 := Aft.cell d3; refine wp_region_aft (by kernel_rfl) (by kernel_rfl) ?_; (repeat (go_big_quiet_step ((first | (go_at_call 17; with_reducible exact aft_call (HT3.out _)) | (go_at_call 16; with_reducible exact aft_call (HC2.out _)))))); refine wpQuiet_nil ?_; clear aft_c0 aft_c1 aft_d0 aft_d1 aft_d2 aft_d3; intro w5 hw2_; have hb := Aft.below hw2_; clear hw2_)
        go_wp2_with fail
        go_ret
        exact ⟨rfl, bstep hB (Nat.le_refl _) hb⟩

/-! plain: what Fixed answers holds -/
theorem fix_over {num den p : Nat} (h : fixE num den p = 24) (h0 : 0 < den) : fixV num den p = 0 ∧ 18446744073709551615 * den < num * 2 ^ p := by
  unfold fixE at h
  unfold fixV
  generalize num * 2 ^ p = X at *
  have hdm := Nat.div_add_mod X den
  split at h
  · rename_i hb
    rw [if_pos hb]
    omega
  · rename_i hb
    rw [if_neg hb]
    split at h
    · omega
    · rename_i hr
      rw [if_neg hr]
      split at h
      · rename_i hq
        rw [if_pos hq]
        rw [hq] at hdm
        refine ⟨rfl, ?_⟩
        rw [Nat.mul_comm] at hdm
        omega
      · omega
theorem fix_fine {num den p : Nat} (h : fixE num den p ≠ 24) (h0 : 0 < den) : fixE num den p = 0 ∧ fixV num den p < 18446744073709551616 ∧ num * 2 ^ p ≤ fixV num den p * den ∧ (fixV num den p = 0 ∨ (fixV num den p - 1) * den < num * 2 ^ p) := by
  unfold fixE at h
  unfold fixV fixE
  generalize num * 2 ^ p = X at *
  have hdm := Nat.div_add_mod X den
  have hm := Nat.mod_lt X h0
  rw [Nat.mul_comm] at hdm
  split at h
  · omega
  · rename_i hb
    rw [if_neg hb, if_neg hb]
    have hq : X / den < 18446744073709551616 := Nat.div_lt_of_lt_mul (by omega)
    split at h
    · rename_i hr
      rw [if_pos hr, if_pos hr]
      refine ⟨rfl, hq, by omega, ?_⟩
      by_cases hz : X / den = 0
      · exact .inl hz
      · right
        have : (X / den - 1) * den = X / den * den - den := by rw [Nat.sub_mul, Nat.one_mul]
        have h3 : den ≤ X / den * den := Nat.le_mul_of_pos_left den (Nat.pos_of_ne_zero hz)
        rw [this]
        generalize X / den * den = T at *
        omega
    · rename_i hr
      rw [if_neg hr, if_neg hr]
      split at h
      · omega
      · rename_i hqe
        rw [if_neg hqe, if_neg hqe]
        refine ⟨rfl, by omega, ?_, .inr ?_⟩
        · rw [Nat.add_mul, Nat.one_mul]; omega
        · rw [Nat.add_sub_cancel]; omega

set_option maxRecDepth 100000 in
set_option maxHeartbeats 8000000 in
theorem rounds_any (num den : Nat) (power : Int) (w : World) (h1 : num < 18446744073709551616) (h2 : den < 18446744073709551616) (hp1 : power < 9223372036854775808) :
    Calls Try.prog 6 #[.agg #[.int .u64 num, .int .u64 den], .int .i64 power] w fun e w' => e = .returned (.bool true) ∧ Below w.heap.size w w' := by
  have hB := below1 w (Obj.cells #[.int .u64 num, .int .u64 den] 24)
  have bk := Blk.new w 24 #[.int .u64 num, .int .u64 den]
  have c0 := bk.cell 0 (.int .u64 num) rfl
  have c1 := bk.cell 1 (.int .u64 den) rfl
  clear bk
  have HFL := Lib.hid (fun W => floor_any num den W h1)
  have HH : Hid (∀ W : World, Calls Try.prog 10 #[] W fun e w' => e = .returned (.bool true) ∧ Below W.heap.size W w') := fun W => awake_any W
  by_cases h0 : den = 0
  · subst h0
    have HF : Hid (∀ W, Calls Try.prog 19 #[.agg #[.int .u64 num, .int .u64 0], .int .i64 power] W fun e w' => e = .returned (.tuple #[.int .u64 0, .int .i64 1]) ∧ Below W.heap.size W w') := fun W => fixed_no num 0 power W (.inl rfl)
    have HCE := Lib.hid (fun W => ceil_no num W)
    have HFL : Hid (∀ W, Calls Try.prog 20 #[.agg #[.int .u64 num, .int .u64 0]] W fun e w' => e = .returned (.int .u64 0) ∧ Below W.heap.size W w') := fun W => by
      have := floor_any num 0 W h1
      rw [Nat.div_zero] at this
      exact this
    have HTO : Hid (∀ W, Calls Try.prog 8 #[.agg #[.int .u64 num, .int .u64 0]] W fun e w' => e = .returned (.agg #[.int .u64 num, .int .u64 0]) ∧ Below W.heap.size W w') := fun W => to_any num 0 W
    go_enter Try.func6, Try.ntmps6
    go_wp2_with (first | (go_at_call 8; (with_reducible refine (HTO.out _).mono ?_); rintro e w2 ⟨rfl, hb⟩; replace c0 := kcell hb c0; replace c1 := kcell hb c1; replace hB := bstep hB (Nat.le_refl _) hb; clear hb) | (go_at_call 19; (with_reducible refine (HF.out _).mono ?_); rintro e w2 ⟨rfl, hb⟩; replace c0 := kcell hb c0; replace c1 := kcell hb c1; replace hB := bstep hB (Nat.le_refl _) hb; clear hb) | (go_at_call 20; (with_reducible refine (HFL.out _).mono ?_); rintro e w2 ⟨rfl, hb⟩; replace c0 := kcell hb c0; replace c1 := kcell hb c1; replace hB := bstep hB (Nat.le_refl _) hb; clear hb) | (go_at_call 21; (with_reducible refine (HCE.out _).mono ?_); rintro e w2 ⟨rfl, hb⟩; replace c0 := kcell hb c0; replace c1 := kcell hb c1; replace hB := bstep hB (Nat.le_refl _) hb; clear hb) | (go_at_call 10; (with_reducible refine (awake_any _).mono ?_); rintro e w2 ⟨rfl, hb⟩; replace c0 := kcell hb c0; replace c1 := kcell hb c1; replace hB := bstep hB (Nat.le_refl _) hb; clear hb))
    go_ret
    exact ⟨rfl, hB⟩
  · have q0 : ((den : Int) == 0) = false := by simp; omega
    have q00 : ¬ (den : Int) = 0 := by omega
    have HCE := Lib.hid (fun W => ceil_any num den W h1 (by omega))
    have hdm := Nat.div_add_mod num den
    have hml := Nat.mod_lt num (show 0 < den by omega)
    have hdl := Nat.div_le_self num den
    have e1 : IntKind.u64.wrap ((num : Int) / (den : Int)) = ((num / den : Nat) : Int) := wr _ _ (.inl (by rw [Int.natCast_ediv])) (by omega)
    have e2 : IntKind.u64.wrap (((num / den : Nat) : Int) * (den : Int)) = ((num / den * den : Nat) : Int) := wr _ _ (.inl (by rw [Int.natCast_mul])) (by rw [Nat.mul_comm]; omega)
    rw [Nat.mul_comm] at hdm
    have HCV : Hid (ceilN num den = if num % den = 0 then num / den else num / den + 1) := rfl
    have hup : num % den ≠ 0 → num / den + 1 < 18446744073709551616 := fun hr => by
      by_cases hden : den = 1
      · subst hden; exact absurd (Nat.mod_one _) hr
      · by_cases hn : num < den
        · rw [Nat.div_eq_of_lt hn]; omega
        · have := Nat.div_lt_self (n := num) (k := den) (by omega) (by omega)
          omega
    have HP := Lib.hid h0
    have Hden : Hid (0 < den) := by unfold Hid; omega
    clear h0
    generalize num / den * den = T at *
    generalize hQ : num / den = Q at *
    generalize num % den = R at *
    clear hQ hdl
    have hqq : ((Q : Int) != (Q : Int)) = false := by simp
    by_cases hpw : power < 0 ∨ 63 < power
    · have HF := Lib.hid (fun W => fixed_no num den power W (.inr hpw))
      by_cases hr : R = 0
      · have hr1 : ¬ (T : Int) < (num : Int) := by omega
        have HCE2 : Hid (∀ W, Calls Try.prog 21 #[.agg #[.int .u64 num, .int .u64 den]] W fun e w' => e = .returned (.int .u64 (Q : Int)) ∧ Below W.heap.size W w') := fun W => by
          have := HCE.out W
          rw [HCV.out, if_pos hr] at this
          exact this
        clear HCE HCV hup hr
        go_enter Try.func6, Try.ntmps6
        go_wp2_with (first | (go_at_call 8; (with_reducible refine (to_any _ _ _).mono ?_); rintro e w2 ⟨rfl, hb⟩; replace c0 := kcell hb c0; replace c1 := kcell hb c1; replace hB := bstep hB (Nat.le_refl _) hb; clear hb) | (go_at_call 19; (with_reducible refine (HF.out _).mono ?_); rintro e w2 ⟨rfl, hb⟩; replace c0 := kcell hb c0; replace c1 := kcell hb c1; replace hB := bstep hB (Nat.le_refl _) hb; clear hb) | (go_at_call 10; (with_reducible refine (awake_any _).mono ?_); rintro e w2 ⟨rfl, hb⟩; replace c0 := kcell hb c0; replace c1 := kcell hb c1; replace hB := bstep hB (Nat.le_refl _) hb; clear hb))
        (have aft_c0 := Aft.cell c0; have aft_c1 := Aft.cell c1; refine wp_region_aft (by kernel_rfl) (by kernel_rfl) ?_; (repeat (go_big_quiet_step ((first | (go_at_call 8; with_reducible exact aft_call (to_any _ _ _)) | (go_at_call 20; with_reducible exact aft_call (HFL.out _)) | (go_at_call 21; with_reducible exact aft_call (HCE2.out _)))))); refine wpQuiet_nil ?_; clear aft_c0 aft_c1; intro w4 hw2_; have hb := Aft.below hw2_; clear hw2_)
        (replace c0 := kcell hb c0; replace c1 := kcell hb c1; replace hB := bstep hB (Nat.le_refl _) hb; clear hb)
        rcases hpw with hpw | hpw
        · go_wp2_with (first | (go_at_call 8; (with_reducible refine (to_any _ _ _).mono ?_); rintro e w2 ⟨rfl, hb⟩; replace c0 := kcell hb c0; replace c1 := kcell hb c1; replace hB := bstep hB (Nat.le_refl _) hb; clear hb) | (go_at_call 19; (with_reducible refine (HF.out _).mono ?_); rintro e w2 ⟨rfl, hb⟩; replace c0 := kcell hb c0; replace c1 := kcell hb c1; replace hB := bstep hB (Nat.le_refl _) hb; clear hb) | (go_at_call 10; (with_reducible refine (awake_any _).mono ?_); rintro e w2 ⟨rfl, hb⟩; replace c0 := kcell hb c0; replace c1 := kcell hb c1; replace hB := bstep hB (Nat.le_refl _) hb; clear hb))
          go_ret
          exact ⟨rfl, hB⟩
        · have hpw2 : ¬ power < 0 := by omega
          go_wp2_with (first | (go_at_call 8; (with_reducible refine (to_any _ _ _).mono ?_); rintro e w2 ⟨rfl, hb⟩; replace c0 := kcell hb c0; replace c1 := kcell hb c1; replace hB := bstep hB (Nat.le_refl _) hb; clear hb) | (go_at_call 19; (with_reducible refine (HF.out _).mono ?_); rintro e w2 ⟨rfl, hb⟩; replace c0 := kcell hb c0; replace c1 := kcell hb c1; replace hB := bstep hB (Nat.le_refl _) hb; clear hb) | (go_at_call 10; (with_reducible refine (awake_any _).mono ?_); rintro e w2 ⟨rfl, hb⟩; replace c0 := kcell hb c0; replace c1 := kcell hb c1; replace hB := bstep hB (Nat.le_refl _) hb; clear hb))
          go_ret
          exact ⟨rfl, hB⟩
      · have hr1 : (T : Int) < (num : Int) := by omega
        have hq2 := hup hr
        have e7 : IntKind.u64.wrap ((Q : Int) + 1) = (Q : Int) + 1 := by rw [IntKind.wrap_u64]; omega
        have hqq2 : ((Q : Int) + 1 != (Q : Int) + 1) = false := by simp
        have HCE2 : Hid (∀ W, Calls Try.prog 21 #[.agg #[.int .u64 num, .int .u64 den]] W fun e w' => e = .returned (.int .u64 ((Q : Int) + 1)) ∧ Below W.heap.size W w') := fun W => by
          have := HCE.out W
          rw [HCV.out, if_neg hr] at this
          exact this
        clear HCE HCV hup hr
        go_enter Try.func6, Try.ntmps6
        go_wp2_with (first | (go_at_call 8; (with_reducible refine (to_any _ _ _).mono ?_); rintro e w2 ⟨rfl, hb⟩; replace c0 := kcell hb c0; replace c1 := kcell hb c1; replace hB := bstep hB (Nat.le_refl _) hb; clear hb) | (go_at_call 19; (with_reducible refine (HF.out _).mono ?_); rintro e w2 ⟨rfl, hb⟩; replace c0 := kcell hb c0; replace c1 := kcell hb c1; replace hB := bstep hB (Nat.le_refl _) hb; clear hb) | (go_at_call 10; (with_reducible refine (awake_any _).mono ?_); rintro e w2 ⟨rfl, hb⟩; replace c0 := kcell hb c0; replace c1 := kcell hb c1; replace hB := bstep hB (Nat.le_refl _) hb; clear hb))
        (have aft_c0 := Aft.cell c0; have aft_c1 := Aft.cell c1; refine wp_region_aft (by kernel_rfl) (by kernel_rfl) ?_; (repeat (go_big_quiet_step ((first | (go_at_call 8; with_reducible exact aft_call (to_any _ _ _)) | (go_at_call 20; with_reducible exact aft_call (HFL.out _)) | (go_at_call 21; with_reducible exact aft_call (HCE2.out _)))))); refine wpQuiet_nil ?_; clear aft_c0 aft_c1; intro w4 hw2_; have hb := Aft.below hw2_; clear hw2_)
        (replace c0 := kcell hb c0; replace c1 := kcell hb c1; replace hB := bstep hB (Nat.le_refl _) hb; clear hb)
        rcases hpw with hpw | hpw
        · go_wp2_with (first | (go_at_call 8; (with_reducible refine (to_any _ _ _).mono ?_); rintro e w2 ⟨rfl, hb⟩; replace c0 := kcell hb c0; replace c1 := kcell hb c1; replace hB := bstep hB (Nat.le_refl _) hb; clear hb) | (go_at_call 19; (with_reducible refine (HF.out _).mono ?_); rintro e w2 ⟨rfl, hb⟩; replace c0 := kcell hb c0; replace c1 := kcell hb c1; replace hB := bstep hB (Nat.le_refl _) hb; clear hb) | (go_at_call 10; (with_reducible refine (awake_any _).mono ?_); rintro e w2 ⟨rfl, hb⟩; replace c0 := kcell hb c0; replace c1 := kcell hb c1; replace hB := bstep hB (Nat.le_refl _) hb; clear hb))
          go_ret
          exact ⟨rfl, hB⟩
        · have hpw2 : ¬ power < 0 := by omega
          go_wp2_with (first | (go_at_call 8; (with_reducible refine (to_any _ _ _).mono ?_); rintro e w2 ⟨rfl, hb⟩; replace c0 := kcell hb c0; replace c1 := kcell hb c1; replace hB := bstep hB (Nat.le_refl _) hb; clear hb) | (go_at_call 19; (with_reducible refine (HF.out _).mono ?_); rintro e w2 ⟨rfl, hb⟩; replace c0 := kcell hb c0; replace c1 := kcell hb c1; replace hB := bstep hB (Nat.le_refl _) hb; clear hb) | (go_at_call 10; (with_reducible refine (awake_any _).mono ?_); rintro e w2 ⟨rfl, hb⟩; replace c0 := kcell hb c0; replace c1 := kcell hb c1; replace hB := bstep hB (Nat.le_refl _) hb; clear hb))
          go_ret
          exact ⟨rfl, hB⟩
    · obtain ⟨p, rfl⟩ := Int.eq_ofNat_of_zero_le (show 0 ≤ power by omega)
      have hp : p ≤ 63 := by omega
      have p0 : ¬ (p : Int) < 0 := by omega
      have p1 : ¬ (63 : Int) < (p : Int) := by omega
      clear hpw hp1
      have HF := Lib.hid (fun W => fixed_yes num den p W h1 h2 Hden.out hp)
      by_cases h24 : fixE num den p = 24
      · obtain ⟨fv, fl⟩ := fix_over h24 Hden.out
        have HF : Hid (∀ W, Calls Try.prog 19 #[.agg #[.int .u64 num, .int .u64 den], .int .i64 p] W fun e w' => e = .returned (.tuple #[.int .u64 0, .int .i64 24]) ∧ Below W.heap.size W w') := fun W => by
          have := HF.out W
          rw [fv, h24] at this
          exact this
        have hpl := pow_lt hp
        have HPN := Lib.hid (fun k (h : k < p) a ha => pow_next h hp a ha)
        obtain ⟨big, hbig, hbig2⟩ : ∃ big : Nat, (big : Int) = 18446744073709551615 ∧ big = 18446744073709551615 := ⟨18446744073709551615, rfl, rfl⟩
        have HT1 := Lib.hid (fun W => refTimes_any big den W (by omega) h2)
        have HT2 := Lib.hid (fun W => refTimes_any num (2 ^ p) W h1 hpl)
        have HC := Lib.hid (fun W => refCompare_any (big * den) (num * 2 ^ p) W (prod_big (by omega) h2) (prod_big h1 hpl))
        rw [← hbig2] at fl
        rw [cmp_lt fl] at HC
        generalize wV (big * den) = wx at *
        generalize wV (num * 2 ^ p) = wy at *
        rw [hbig] at HT1
        obtain ⟨PP, hPP⟩ : ∃ PP, PP = 2 ^ p := ⟨_, rfl⟩
        rw [← hPP] at HT2
        have HPP := Lib.hid hPP
        clear fl fv h24 hPP hbig hbig2 hpl big
        by_cases hr : R = 0
        · have hr1 : ¬ (T : Int) < (num : Int) := by omega
          have HCE2 : Hid (∀ W, Calls Try.prog 21 #[.agg #[.int .u64 num, .int .u64 den]] W fun e w' => e = .returned (.int .u64 (Q : Int)) ∧ Below W.heap.size W w') := fun W => by
            have := HCE.out W
            rw [HCV.out, if_pos hr] at this
            exact this
          clear HCE HCV hup hr
          go_enter Try.func6, Try.ntmps6
          go_wp2_with (first | (go_at_call 8; (with_reducible refine (to_any _ _ _).mono ?_); rintro e w2 ⟨rfl, hb⟩; replace c0 := kcell hb c0; replace c1 := kcell hb c1; replace hB := bstep hB (Nat.le_refl _) hb; clear hb) | (go_at_call 19; (with_reducible refine (HF.out _).mono ?_); rintro e w2 ⟨rfl, hb⟩; replace c0 := kcell hb c0; replace c1 := kcell hb c1; replace hB := bstep hB (Nat.le_refl _) hb; clear hb) | (go_at_call 10; (with_reducible refine (awake_any _).mono ?_); rintro e w2 ⟨rfl, hb⟩; replace c0 := kcell hb c0; replace c1 := kcell hb c1; replace hB := bstep hB (Nat.le_refl _) hb; clear hb))
          (have aft_c0 := Aft.cell c0; have aft_c1 := Aft.cell c1; refine wp_region_aft (by kernel_rfl) (by kernel_rfl) ?_; (repeat (go_big_quiet_step ((first | (go_at_call 8; with_reducible exact aft_call (to_any _ _ _)) | (go_at_call 20; with_reducible exact aft_call (HFL.out _)) | (go_at_call 21; with_reducible exact aft_call (HCE2.out _)))))); refine wpQuiet_nil ?_; clear aft_c0 aft_c1; intro w4 hw2_; have hb := Aft.below hw2_; clear hw2_)
          (replace c0 := kcell hb c0; replace c1 := kcell hb c1; replace hB := bstep hB (Nat.le_refl _) hb; clear hb)
          go_wp2_with fail
          go_loop [8, 9] (fun vp vi => ∃ k a : Nat, k ≤ p ∧ vi = .int .i64 k ∧ vp = .int .u64 (a : Int) ∧ Hid (a = 2 ^ k)) (fun _ i => p - (intOf i).toNat)
          case atStart => exact ⟨0, 1, Nat.zero_le _, rfl, rfl, rfl⟩
          case round =>
            obtain ⟨k, a, hk, rfl, rfl, HA⟩ := hrel
            by_cases hkp : k < p
            · have hk1 : (k : Int) < (p : Int) := by omega
              obtain ⟨b, e1, hb2⟩ := HPN.out k hkp a HA.out; have HB2 := Lib.hid hb2; clear hb2
              go_wp2_with fail
              go_round
              case rel => exact ⟨k + 1, b, by omega, by go_num, rfl, HB2.out⟩
              case measure => simp [intOf]; omega
            · obtain rfl : k = p := by omega
              obtain rfl : a = PP := HA.out.trans HPP.out.symm
              go_wp2_with fail
              (have aft_c0 := Aft.cell c0; have aft_c1 := Aft.cell c1; refine wp_region_aft (by kernel_rfl) (by kernel_rfl) ?_; (repeat (go_big_quiet_step ((first | (go_at_call 17; with_reducible exact aft_call (HT1.out _)) | (go_at_call 17; with_reducible exact aft_call (HT2.out _)) | (go_at_call 16; with_reducible exact aft_call (HC.out _)) | (go_at_call 10; with_reducible exact aft_call (HH.out _)))))); refine wpQuiet_nil ?_; clear aft_c0 aft_c1; intro w5 hw2_; have hb := Aft.below hw2_; clear hw2_)
              go_wp2_with fail
              go_ret
              exact ⟨rfl, bstep hB (Nat.le_refl _) hb⟩
        · have hr1 : (T : Int) < (num : Int) := by omega
          have hq2 := hup hr
          have e7 : IntKind.u64.wrap ((Q : Int) + 1) = (Q : Int) + 1 := by rw [IntKind.wrap_u64]; omega
          have hqq2 : ((Q : Int) + 1 != (Q : Int) + 1) = false := by simp
          have HCE2 : Hid (∀ W, Calls Try.prog 21 #[.agg #[.int .u64 num, .int .u64 den]] W fun e w' => e = .returned (.int .u64 ((Q : Int) + 1)) ∧ Below W.heap.size W w') := fun W => by
            have := HCE.out W
            rw [HCV.out, if_neg hr] at this
            exact this
          clear HCE HCV hup hr
          go_enter Try.func6, Try.ntmps6
          go_wp2_with (first | (go_at_call 8; (with_reducible refine (to_any _ _ _).mono ?_); rintro e w2 ⟨rfl, hb⟩; replace c0 := kcell hb c0; replace c1 := kcell hb c1; replace hB := bstep hB (Nat.le_refl _) hb; clear hb) | (go_at_call 19; (with_reducible refine (HF.out _).mono ?_); rintro e w2 ⟨rfl, hb⟩; replace c0 := kcell hb c0; replace c1 := kcell hb c1; replace hB := bstep hB (Nat.le_refl _) hb; clear hb) | (go_at_call 10; (with_reducible refine (awake_any _).mono ?_); rintro e w2 ⟨rfl, hb⟩; replace c0 := kcell hb c0; replace c1 := kcell hb c1; replace hB := bstep hB (Nat.le_refl _) hb; clear hb))
          (have aft_c0 := Aft.cell c0; have aft_c1 := Aft.cell c1; refine wp_region_aft (by kernel_rfl) (by kernel_rfl) ?_; (repeat (go_big_quiet_step ((first | (go_at_call 8; with_reducible exact aft_call (to_any _ _ _)) | (go_at_call 20; with_reducible exact aft_call (HFL.out _)) | (go_at_call 21; with_reducible exact aft_call (HCE2.out _)))))); refine wpQuiet_nil ?_; clear aft_c0 aft_c1; intro w4 hw2_; have hb := Aft.below hw2_; clear hw2_)
          (replace c0 := kcell hb c0; replace c1 := kcell hb c1; replace hB := bstep hB (Nat.le_refl _) hb; clear hb)
          go_wp2_with fail
          go_loop [8, 9] (fun vp vi => ∃ k a : Nat, k ≤ p ∧ vi = .int .i64 k ∧ vp = .int .u64 (a : Int) ∧ Hid (a = 2 ^ k)) (fun _ i => p - (intOf i).toNat)
          case atStart => exact ⟨0, 1, Nat.zero_le _, rfl, rfl, rfl⟩
          case round =>
            obtain ⟨k, a, hk, rfl, rfl, HA⟩ := hrel
            by_cases hkp : k < p
            · have hk1 : (k : Int) < (p : Int) := by omega
              obtain ⟨b, e1, hb2⟩ := HPN.out k hkp a HA.out; have HB2 := Lib.hid hb2; clear hb2
              go_wp2_with fail
              go_round
              case rel => exact ⟨k + 1, b, by omega, by go_num, rfl, HB2.out⟩
              case measure => simp [intOf]; omega
            · obtain rfl : k = p := by omega
              obtain rfl : a = PP := HA.out.trans HPP.out.symm
              go_wp2_with fail
              (have aft_c0 := Aft.cell c0; have aft_c1 := Aft.cell c1; refine wp_region_aft (by kernel_rfl) (by kernel_rfl) ?_; (repeat (go_big_quiet_step ((first | (go_at_call 17; with_reducible exact aft_call (HT1.out _)) | (go_at_call 17; with_reducible exact aft_call (HT2.out _)) | (go_at_call 16; with_reducible exact aft_call (HC.out _)) | (go_at_call 10; with_reducible exact aft_call (HH.out _)))))); refine wpQuiet_nil ?_; clear aft_c0 aft_c1; intro w5 hw2_; have hb := Aft.below hw2_; clear hw2_)
              go_wp2_with fail
              go_ret
              exact ⟨rfl, bstep hB (Nat.le_refl _) hb⟩
      · obtain ⟨fe, fl, fg, fs⟩ := fix_fine h24 Hden.out
        have HF : Hid (∀ W, Calls Try.prog 19 #[.agg #[.int .u64 num, .int .u64 den], .int .i64 p] W fun e w' => e = .returned (.tuple #[.int .u64 (fixV num den p : Int), .int .i64 0]) ∧ Below W.heap.size W w') := fun W => by
          have := HF.out W
          rw [fe] at this
          exact this
        have HHO := Lib.hid (fun W => holds_yes num den p (fixV num den p) W h1 h2 hp fl fg fs)
        clear fe fl fg fs h24
        generalize fixV num den p = n at *
        by_cases hr : R = 0
        · have hr1 : ¬ (T : Int) < (num : Int) := by omega
          have HCE2 : Hid (∀ W, Calls Try.prog 21 #[.agg #[.int .u64 num, .int .u64 den]] W fun e w' => e = .returned (.int .u64 (Q : Int)) ∧ Below W.heap.size W w') := fun W => by
            have := HCE.out W
            rw [HCV.out, if_pos hr] at this
            exact this
          clear HCE HCV hup hr
          go_enter Try.func6, Try.ntmps6
          go_wp2_with (first | (go_at_call 8; (with_reducible refine (to_any _ _ _).mono ?_); rintro e w2 ⟨rfl, hb⟩; replace c0 := kcell hb c0; replace c1 := kcell hb c1; replace hB := bstep hB (Nat.le_refl _) hb; clear hb) | (go_at_call 19; (with_reducible refine (HF.out _).mono ?_); rintro e w2 ⟨rfl, hb⟩; replace c0 := kcell hb c0; replace c1 := kcell hb c1; replace hB := bstep hB (Nat.le_refl _) hb; clear hb) | (go_at_call 10; (with_reducible refine (awake_any _).mono ?_); rintro e w2 ⟨rfl, hb⟩; replace c0 := kcell hb c0; replace c1 := kcell hb c1; replace hB := bstep hB (Nat.le_refl _) hb; clear hb))
          (have aft_c0 := Aft.cell c0; have aft_c1 := Aft.cell c1; refine wp_region_aft (by kernel_rfl) (by kernel_rfl) ?_; (repeat (go_big_quiet_step ((first | (go_at_call 8; with_reducible exact aft_call (to_any _ _ _)) | (go_at_call 20; with_reducible exact aft_call (HFL.out _)) | (go_at_call 21; with_reducible exact aft_call (HCE2.out _)))))); refine wpQuiet_nil ?_; clear aft_c0 aft_c1; intro w4 hw2_; have hb := Aft.below hw2_; clear hw2_)
          (replace c0 := kcell hb c0; replace c1 := kcell hb c1; replace hB := bstep hB (Nat.le_refl _) hb; clear hb)
          go_wp2_with (first | (go_at_call 8; (with_reducible refine (to_any _ _ _).mono ?_); rintro e w2 ⟨rfl, hb⟩; replace c0 := kcell hb c0; replace c1 := kcell hb c1; replace hB := bstep hB (Nat.le_refl _) hb; clear hb) | (go_at_call 19; (with_reducible refine (HF.out _).mono ?_); rintro e w2 ⟨rfl, hb⟩; replace c0 := kcell hb c0; replace c1 := kcell hb c1; replace hB := bstep hB (Nat.le_refl _) hb; clear hb) | (go_at_call 10; (with_reducible refine (awake_any _).mono ?_); rintro e w2 ⟨rfl, hb⟩; replace c0 := kcell hb c0; replace c1 := kcell hb c1; replace hB := bstep hB (Nat.le_refl _) hb; clear hb) | (go_at_call 22; (with_reducible refine (HHO.out _).mono ?_); rintro e w2 ⟨rfl, hb⟩; replace c0 := kcell hb c0; replace c1 := kcell hb c1; replace hB := bstep hB (Nat.le_refl _) hb; clear hb))
          go_ret
          exact ⟨rfl, hB⟩
        · have hr1 : (T : Int) < (num : Int) := by omega
          have hq2 := hup hr
          have e7 : IntKind.u64.wrap ((Q : Int) + 1) = (Q : Int) + 1 := by rw [IntKind.wrap_u64]; omega
          have hqq2 : ((Q : Int) + 1 != (Q : Int) + 1) = false := by simp
          have HCE2 : Hid (∀ W, Calls Try.prog 21 #[.agg #[.int .u64 num, .int .u64 den]] W fun e w' => e = .returned (.int .u64 ((Q : Int) + 1)) ∧ Below W.heap.size W w') := fun W => by
            have := HCE.out W
            rw [HCV.out, if_neg hr] at this
            exact this
          clear HCE HCV hup hr
          go_enter Try.func6, Try.ntmps6
          go_wp2_with (first | (go_at_call 8; (with_reducible refine (to_any _ _ _).mono ?_); rintro e w2 ⟨rfl, hb⟩; replace c0 := kcell hb c0; replace c1 := kcell hb c1; replace hB := bstep hB (Nat.le_refl _) hb; clear hb) | (go_at_call 19; (with_reducible refine (HF.out _).mono ?_); rintro e w2 ⟨rfl, hb⟩; replace c0 := kcell hb c0; replace c1 := kcell hb c1; replace hB := bstep hB (Nat.le_refl _) hb; clear hb) | (go_at_call 10; (with_reducible refine (awake_any _).mono ?_); rintro e w2 ⟨rfl, hb⟩; replace c0 := kcell hb c0; replace c1 := kcell hb c1; replace hB := bstep hB (Nat.le_refl _) hb; clear hb))
          (have aft_c0 := Aft.cell c0; have aft_c1 := Aft.cell c1; refine wp_region_aft (by kernel_rfl) (by kernel_rfl) ?_; (repeat (go_big_quiet_step ((first | (go_at_call 8; with_reducible exact aft_call (to_any _ _ _)) | (go_at_call 20; with_reducible exact aft_call (HFL.out _)) | (go_at_call 21; with_reducible exact aft_call (HCE2.out _)))))); refine wpQuiet_nil ?_; clear aft_c0 aft_c1; intro w4 hw2_; have hb := Aft.below hw2_; clear hw2_)
          (replace c0 := kcell hb c0; replace c1 := kcell hb c1; replace hB := bstep hB (Nat.le_refl _) hb; clear hb)
          go_wp2_with (first | (go_at_call 8; (with_reducible refine (to_any _ _ _).mono ?_); rintro e w2 ⟨rfl, hb⟩; replace c0 := kcell hb c0; replace c1 := kcell hb c1; replace hB := bstep hB (Nat.le_refl _) hb; clear hb) | (go_at_call 19; (with_reducible refine (HF.out _).mono ?_); rintro e w2 ⟨rfl, hb⟩; replace c0 := kcell hb c0; replace c1 := kcell hb c1; replace hB := bstep hB (Nat.le_refl _) hb; clear hb) | (go_at_call 10; (with_reducible refine (awake_any _).mono ?_); rintro e w2 ⟨rfl, hb⟩; replace c0 := kcell hb c0; replace c1 := kcell hb c1; replace hB := bstep hB (Nat.le_refl _) hb; clear hb) | (go_at_call 22; (with_reducible refine (HHO.out _).mono ?_); rintro e w2 ⟨rfl, hb⟩; replace c0 := kcell hb c0; replace c1 := kcell hb c1; replace hB := bstep hB (Nat.le_refl _) hb; clear hb))
          go_ret
          exact ⟨rfl, hB⟩
end Go.Proofs.Ytojglionlcjkjaa
