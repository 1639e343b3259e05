/- Walks: Floor, Ceil, Fixed, and the document's Holds. -/
import Derived.Test.YtojglionlcjkjaaW14
import Derived.Test.YtojglionlcjkjaaW8
import Derived.Test.YtojglionlcjkjaaW7b
namespace Go.Proofs.Ytojglionlcjkjaa
open Go.RowKit

theorem ret_fx {a b c d : Nat} (h1 : a = b) (h2 : c = d) : Ending.returned (.tuple #[.int .u64 (b : Int), .int .i64 (d : Int)]) = .returned (.tuple #[.int .u64 (a : Int), .int .i64 (c : Int)]) := by rw [h1, h2]
def ceilN (num den : Nat) : Nat := if num % den = 0 then num / den else num / den + 1
set_option maxHeartbeats 1000000 in
theorem floor_any (num den : Nat) (w : World) (h1 : num < 18446744073709551616) : Calls Try.prog 20 #[.agg #[.int .u64 num, .int .u64 den]] w fun e w' => e = .returned (.int .u64 ((num / den : Nat) : Int)) ∧ Below w.heap.size w w' := by
  by_cases h0 : den = 0
  · subst h0
    simp only [Nat.div_zero]
    go_enter Try.func20, Try.ntmps20
    go_wp2
    go_ret
    exact ⟨rfl, below1 _ _⟩
  · have q0 : ¬ (den : Int) = 0 := by omega
    have e2 : IntKind.u64.wrap ((num : Int) / (den : Int)) = ((num / den : Nat) : Int) := wr _ _ (.inl (by rw [Int.natCast_ediv])) (Nat.lt_of_le_of_lt (Nat.div_le_self _ _) h1)
    go_enter Try.func20, Try.ntmps20
    go_wp2
    go_ret
    exact ⟨rfl, below1 _ _⟩
set_option maxHeartbeats 1000000 in
theorem ceil_any (num den : Nat) (w : World) (h1 : num < 18446744073709551616) (h0 : 0 < den) : Calls Try.prog 21 #[.agg #[.int .u64 num, .int .u64 den]] w fun e w' => e = .returned (.int .u64 ((ceilN num den : Nat) : Int)) ∧ Below w.heap.size w w' := by
  have q0 : ¬ (den : Int) = 0 := by omega
  have hd := Nat.div_le_self num den
  have hdm := Nat.div_add_mod num den
  have hm := Nat.mod_lt num h0
  have e2 : IntKind.u64.wrap ((num : Int) / (den : Int)) = ((num / den : Nat) : Int) := wr _ _ (.inl (by rw [Int.natCast_ediv])) (by omega)
  have e5 : (num : Int) % (den : Int) = ((num % den : Nat) : Int) := (Int.natCast_emod _ _).symm
  have e6 : (num : Int).tmod (den : Int) = ((num % den : Nat) : Int) := by rw [Int.tmod_eq_emod_of_nonneg (by omega)]; exact e5
  have e3 : IntKind.u64.wrap ((num : Int) % (den : Int)) = ((num % den : Nat) : Int) := wr _ _ (.inl e5) (by omega)
  have HC : Hid (ceilN num den = if num % den = 0 then num / den else num / den + 1) := rfl
  have hlt : num / den + 1 ≤ num ∨ num % den = 0 ∨ den = 1 ∨ num < den := by
    by_cases hden : den = 1
    · exact .inr (.inr (.inl hden))
    · by_cases hn : num < den
      · exact .inr (.inr (.inr hn))
      · left
        exact Nat.div_lt_self (by omega) (by omega)
  have hq : num / den + 1 < 18446744073709551616 ∨ num % den = 0 := by
    rcases hlt with h | h | h | h
    · omega
    · exact .inr h
    · subst h; right; exact Nat.mod_one _
    · left; rw [Nat.div_eq_of_lt h]; omega
  generalize num / den = Q at *
  generalize num % den = R at *
  by_cases hr : R = 0
  · have hr1 : ((R : Int) != 0) = false := by simp; omega
    go_enter Try.func21, Try.ntmps21
    go_wp2
    go_ret
    exact ⟨ret_int (by rw [HC.out, if_pos hr]), below1 _ _⟩
  · have hr1 : ((R : Int) != 0) = true := by simp; omega
    have hq2 : Q + 1 < 18446744073709551616 := by omega
    have e7 : IntKind.u64.wrap ((Q : Int) + 1) = (Q : Int) + 1 := by rw [IntKind.wrap_u64]; omega
    go_enter Try.func21, Try.ntmps21
    go_wp2
    go_ret
    exact ⟨ret_int (by rw [HC.out, if_neg hr]; simp), below1 _ _⟩
set_option maxHeartbeats 1000000 in
theorem ceil_no (num : Nat) (w : World) : Calls Try.prog 21 #[.agg #[.int .u64 num, .int .u64 0]] w fun e w' => e = .returned (.int .u64 0) ∧ Below w.heap.size w w' := by
  go_enter Try.func21, Try.ntmps21
  go_wp2
  go_ret
  exact ⟨rfl, below1 _ _⟩

/-! Fixed -/
def fixV (num den p : Nat) : Nat := if den * 18446744073709551616 ≤ num * 2 ^ p then 0 else if num * 2 ^ p % den = 0 then num * 2 ^ p / den else if num * 2 ^ p / den = 18446744073709551615 then 0 else num * 2 ^ p / den + 1
def fixE (num den p : Nat) : Nat := if den * 18446744073709551616 ≤ num * 2 ^ p then 24 else if num * 2 ^ p % den = 0 then 0 else if num * 2 ^ p / den = 18446744073709551615 then 24 else 0
set_option maxHeartbeats 1000000 in
theorem fixed_no (num den : Nat) (power : Int) (w : World) (h : den = 0 ∨ power < 0 ∨ 63 < power) : Calls Try.prog 19 #[.agg #[.int .u64 num, .int .u64 den], .int .i64 power] w fun e w' => e = .returned (.tuple #[.int .u64 0, .int .i64 1]) ∧ Below w.heap.size w w' := by
  by_cases h0 : den = 0
  · subst h0
    go_enter Try.func19, Try.ntmps19
    go_wp2
    go_ret2
    exact ⟨rfl, below1 _ _⟩
  · have q0 : ((den : Int) == 0) = false := by simp; omega
    rcases h with h | h | h
    · exact absurd h h0
    · go_enter Try.func19, Try.ntmps19
      go_wp2
      go_ret2
      exact ⟨rfl, below1 _ _⟩
    · have h2 : ¬ power < 0 := by omega
      go_enter Try.func19, Try.ntmps19
      go_wp2
      go_ret2
      exact ⟨rfl, below1 _ _⟩
set_option maxRecDepth 100000 in
set_option maxHeartbeats 2000000 in
theorem fixed_yes (num den p : Nat) (w : World) (h1 : num < 18446744073709551616) (h2 : den < 18446744073709551616) (h0 : 0 < den) (hp : p ≤ 63) :
    Calls Try.prog 19 #[.agg #[.int .u64 num, .int .u64 den], .int .i64 p] w fun e w' => e = .returned (.tuple #[.int .u64 (fixV num den p : Int), .int .i64 (fixE num den p : Int)]) ∧ Below w.heap.size w w' := by
  have hB := below1 w (Obj.cells #[.int .u64 num, .int .u64 den] 25)
  have bk := Blk.new w 25 #[.int .u64 num, .int .u64 den]
  have c1 := bk.cell 1 (.int .u64 den) rfl
  have c0 := bk.cell 0 (.int .u64 num) rfl
  have q0 : ((den : Int) == 0) = false := by simp; omega
  have p0 : ¬ (p : Int) < 0 := by omega
  have p1 : ¬ (63 : Int) < (p : Int) := by omega
  have p2 : (p : Int) < 64 := by omega
  have hpw : 2 ^ p < 18446744073709551616 := Nat.lt_of_le_of_lt (Nat.pow_le_pow_right (by omega) hp) (by decide)
  have pc : (2 : Int) ^ p = ((2 ^ p : Nat) : Int) := by rw [Int.natCast_pow]; rfl
  have e1 : IntKind.u64.wrap (2 ^ p) = ((2 ^ p : Nat) : Int) := wr _ _ (.inl pc) hpw
  have e1' : IntKind.u64.wrap (1 * 2 ^ p) = ((2 ^ p : Nat) : Int) := wr _ _ (.inl (by rw [Int.one_mul]; exact pc)) hpw
  have HM := Lib.hid (fun W => mul64_any num (2 ^ p) W h1 hpw)
  have HV : Hid (fixV num den p = if den * 18446744073709551616 ≤ num * 2 ^ p then 0 else if num * 2 ^ p % den = 0 then num * 2 ^ p / den else if num * 2 ^ p / den = 18446744073709551615 then 0 else num * 2 ^ p / den + 1) := rfl
  have HE : Hid (fixE num den p = if den * 18446744073709551616 ≤ num * 2 ^ p then 24 else if num * 2 ^ p % den = 0 then 0 else if num * 2 ^ p / den = 18446744073709551615 then 24 else 0) := rfl
  generalize num * 2 ^ p = X at *
  generalize (2 : Nat) ^ p = pw at *
  have hhi : X / 18446744073709551616 < den ∨ den ≤ X / 18446744073709551616 := by omega
  have HD := Lib.hid (fun W (h : X / 18446744073709551616 < den) => div64_any (X / 18446744073709551616) (X % 18446744073709551616) den W h (by omega) h2)
  have eX : X / 18446744073709551616 * 18446744073709551616 + X % 18446744073709551616 = X := by omega
  rw [eX] at HD
  clear eX
  by_cases hb : den * 18446744073709551616 ≤ X
  · have hb1 : (den : Int) ≤ ((X / 18446744073709551616 : Nat) : Int) := by omega
    have HV2 : Hid (fixV num den p = 0) := by rw [HV.out, if_pos hb]; rfl
    have HE2 : Hid (fixE num den p = 24) := by rw [HE.out, if_pos hb]; rfl
    clear HD
    generalize X / 18446744073709551616 = hi at *
    generalize X % 18446744073709551616 = lo at *
    go_enter Try.func19, Try.ntmps19
    go_wp2_with fail
    refine (HM.out _).mono ?_
    rintro e w2 ⟨rfl, rfl⟩
    go_wp2_with fail
    go_ret2
    exact ⟨ret_fx HV2.out HE2.out, hB⟩
  · have hlt : X / 18446744073709551616 < den := by omega
    have hb1 : ¬ (den : Int) ≤ ((X / 18446744073709551616 : Nat) : Int) := by omega
    have HD2 := Lib.hid (fun W => HD.out W hlt)
    clear HD hlt hhi
    have hq : X / den < 18446744073709551616 := Nat.div_lt_of_lt_mul (by omega)
    rw [if_neg hb] at HV HE
    generalize X / 18446744073709551616 = hi at *
    generalize X % 18446744073709551616 = lo at *
    generalize X / den = Q at *
    generalize X % den = R at *
    clear hb
    have hQe : Q = 18446744073709551615 ∨ Q + 1 < 18446744073709551616 := by omega
    by_cases hr : R = 0
    · have hr1 : ((R : Int) == 0) = true := by simp; omega
      rw [if_pos hr] at HV HE
      clear hr
      go_enter Try.func19, Try.ntmps19
      go_wp2_with fail
      refine (HM.out _).mono ?_
      rintro e w2 ⟨rfl, rfl⟩
      go_wp2_with fail
      refine (HD2.out _).mono ?_
      rintro e w2 ⟨rfl, hb⟩
      go_wp2_with fail
      go_ret2
      exact ⟨ret_fx HV.out HE.out, bstep hB (Nat.le_refl _) hb⟩
    · have hr1 : ((R : Int) == 0) = false := by simp; omega
      rw [if_neg hr] at HV HE
      clear hr
      by_cases hqe : Q = 18446744073709551615
      · have hq1 : ((Q : Int) == 18446744073709551615) = true := by simp; omega
        rw [if_pos hqe] at HV HE
        clear hqe
        go_enter Try.func19, Try.ntmps19
        go_wp2_with fail
        refine (HM.out _).mono ?_
        rintro e w2 ⟨rfl, rfl⟩
        go_wp2_with fail
        refine (HD2.out _).mono ?_
        rintro e w2 ⟨rfl, hb⟩
        go_wp2_with fail
        go_ret2
        exact ⟨ret_fx HV.out HE.out, bstep hB (Nat.le_refl _) hb⟩
      · have hq1 : ((Q : Int) == 18446744073709551615) = false := by simp; omega
        have hq2 : Q + 1 < 18446744073709551616 := by omega
        have e7 : IntKind.u64.wrap ((Q : Int) + 1) = (Q : Int) + 1 := by rw [IntKind.wrap_u64]; omega
        rw [if_neg hqe] at HV HE
        clear hqe
        go_enter Try.func19, Try.ntmps19
        go_wp2_with fail
        refine (HM.out _).mono ?_
        rintro e w2 ⟨rfl, rfl⟩
        go_wp2_with fail
        refine (HD2.out _).mono ?_
        rintro e w2 ⟨rfl, hb⟩
        go_wp2_with fail
        go_ret2
        exact ⟨ret_fx HV.out HE.out, bstep hB (Nat.le_refl _) hb⟩
end Go.Proofs.Ytojglionlcjkjaa
