/- Texts laid as one: FM1, FW1, FM2, FW4, FW5, FW6. -/
import Derived.KernelRfl
import Derived.Test.YtpimflmmfnffeaaZ1
/- Plain numbers: parts of a word of 64 bits. -/
namespace Go.Proofs.Ytpimflmmfnffeaa.Fld

/-- what stands in s bits from bit a on -/
def getN (a s x : Nat) : Nat := x / 2 ^ a % 2 ^ s
/-- x with n in s bits from bit a on -/
def putN (a s x n : Nat) : Nat := 2 ^ a * (2 ^ s * (x / 2 ^ (a + s)) + n) + x % 2 ^ a

theorem getN_lt (a s x : Nat) : getN a s x < 2 ^ s := Nat.mod_lt _ (Nat.two_pow_pos s)

theorem div_testBit (x k j : Nat) : (x / 2 ^ k).testBit j = x.testBit (k + j) := by
  rw [← Nat.shiftRight_eq_div_pow, Nat.testBit_shiftRight]

theorem testBit_put (a s x n j : Nat) (hn : n < 2 ^ s) :
    (putN a s x n).testBit j = if j < a then x.testBit j else if j < a + s then n.testBit (j - a) else x.testBit j := by
  unfold putN
  rw [Nat.testBit_two_pow_mul_add _ (Nat.mod_lt _ (Nat.two_pow_pos a))]
  by_cases h1 : j < a
  · rw [if_pos h1, if_pos h1, Nat.testBit_mod_two_pow]; simp [h1]
  · rw [if_neg h1, if_neg h1, Nat.testBit_two_pow_mul_add _ hn]
    by_cases h2 : j < a + s
    · rw [if_pos (by omega), if_pos h2]
    · rw [if_neg (by omega), if_neg h2, div_testBit]
      congr 1; omega

theorem get_put (a s x n : Nat) (hn : n < 2 ^ s) : getN a s (putN a s x n) = n := by
  apply Nat.eq_of_testBit_eq
  intro j
  unfold getN
  rw [Nat.testBit_mod_two_pow, div_testBit, testBit_put _ _ _ _ _ hn]
  by_cases h : j < s
  · rw [if_neg (by omega), if_pos (by omega)]; simp [h]
  · simp only [h, decide_false, Bool.false_and]
    exact (Nat.testBit_lt_two_pow (Nat.lt_of_lt_of_le hn (Nat.pow_le_pow_right (by omega) (by omega)))).symm

theorem put_lt (a s x n k : Nat) (hn : n < 2 ^ s) (hk : a + s ≤ k) (hx : x < 2 ^ k) : putN a s x n < 2 ^ k := by
  apply Nat.lt_pow_two_of_testBit
  intro i hi
  rw [testBit_put _ _ _ _ _ hn, if_neg (by omega), if_neg (by omega)]
  exact Nat.testBit_lt_two_pow (Nat.lt_of_lt_of_le hx (Nat.pow_le_pow_right (by omega) hi))

theorem mask_eq (a s : Nat) (h : a + s ≤ 64) : 18446744073709551615 - (2 ^ s - 1) * 2 ^ a = 2 ^ 64 - ((2 ^ s - 1) * 2 ^ a + 1) := by
  omega

theorem mask_lt (a s : Nat) (h : a + s ≤ 64) : (2 ^ s - 1) * 2 ^ a < 2 ^ 64 := by
  have h1 : (2 ^ s - 1) * 2 ^ a < 2 ^ s * 2 ^ a := by
    apply Nat.mul_lt_mul_of_pos_right _ (Nat.two_pow_pos a)
    have := Nat.two_pow_pos s
    omega
  rw [← Nat.pow_add] at h1
  exact Nat.lt_of_lt_of_le h1 (Nat.pow_le_pow_right (by omega) (by omega))

theorem testBit_mask (a s j : Nat) : ((2 ^ s - 1) * 2 ^ a).testBit j = (decide (a ≤ j) && decide (j < a + s)) := by
  rw [Nat.testBit_mul_two_pow, Nat.testBit_two_pow_sub_one]
  by_cases h : a ≤ j <;> simp [h]
  omega

/-- how the program puts -/
theorem put_bits (a s x n : Nat) (h : a + s ≤ 64) (hx : x < 2 ^ 64) (hn : n < 2 ^ s) :
    (x &&& (18446744073709551615 - (2 ^ s - 1) * 2 ^ a)) ||| (n * 2 ^ a) = putN a s x n := by
  apply Nat.eq_of_testBit_eq
  intro j
  rw [testBit_put _ _ _ _ _ hn, mask_eq _ _ h, Nat.testBit_or, Nat.testBit_and, Nat.testBit_two_pow_sub_succ (mask_lt a s h), testBit_mask, Nat.testBit_mul_two_pow]
  by_cases h64 : j < 64
  · by_cases h1 : j < a
    · have : ¬ a ≤ j := by omega
      simp [h1, this, h64]
    · by_cases h2 : j < a + s
      · have : a ≤ j := by omega
        simp [h1, this, h2]
      · have h3 : a ≤ j := by omega
        have h4 : n.testBit (j - a) = false := Nat.testBit_lt_two_pow (Nat.lt_of_lt_of_le hn (Nat.pow_le_pow_right (by omega) (by omega)))
        simp [h1, h3, h2, h64, h4]
  · have h5 : x.testBit j = false := Nat.testBit_lt_two_pow (Nat.lt_of_lt_of_le hx (Nat.pow_le_pow_right (by omega) (by omega)))
    have h1 : ¬ j < a := by omega
    have h2 : ¬ j < a + s := by omega
    have h3 : a ≤ j := by omega
    have h4 : n.testBit (j - a) = false := Nat.testBit_lt_two_pow (Nat.lt_of_lt_of_le hn (Nat.pow_le_pow_right (by omega) (by omega)))
    simp [h1, h2, h3, h4, h5]

/-- how the program gets -/
theorem get_bits (a s x : Nat) : (x / 2 ^ a) &&& (2 ^ s - 1) = getN a s x := by
  rw [Nat.and_two_pow_sub_one_eq_mod]; rfl

/-- a bit, and what is below it -/
theorem mod_succ (x i : Nat) : x % 2 ^ (i + 1) = x % 2 ^ i + (x / 2 ^ i % 2) * 2 ^ i := by
  rw [Nat.pow_succ, Nat.mod_mul]
  rw [Nat.mul_comm (2 ^ i)]

def bitB (x i : Nat) : Bool := x / 2 ^ i % 2 == 1
theorem bitB_test (x i : Nat) : bitB x i = x.testBit i := by
  unfold bitB
  rw [Nat.testBit_eq_decide_div_mod_eq]
  simp [BEq.beq]

theorem get_succ (a x i : Nat) : getN a (i + 1) x = getN a i x + if bitB x (a + i) then 2 ^ i else 0 := by
  unfold getN bitB
  rw [mod_succ, Nat.div_div_eq_div_mul, ← Nat.pow_add]
  have := Nat.mod_two_eq_zero_or_one (x / 2 ^ (a + i))
  rcases this with h | h <;> simp [h]

theorem mod_bit (x i : Nat) : x % 2 ^ (i + 1) = x % 2 ^ i + if x.testBit i then 2 ^ i else 0 := by
  rw [mod_succ, ← bitB_test]
  unfold bitB
  have := Nat.mod_two_eq_zero_or_one (x / 2 ^ i)
  rcases this with h | h <;> simp [h]

theorem most_eq (s : Nat) (h1 : 1 ≤ s) (h2 : s ≤ 64) : 18446744073709551615 / 2 ^ (64 - s) = 2 ^ s - 1 := by
  obtain ⟨k, rfl⟩ : ∃ k, s = 64 - k := ⟨64 - s, by omega⟩
  have hk : k < 64 := by omega
  have e : 64 - (64 - k) = k := by omega
  rw [e]
  have : ∀ k : Fin 64, 18446744073709551615 / 2 ^ k.val = 2 ^ (64 - k.val) - 1 := by decide
  exact this ⟨k, hk⟩

theorem half (n m k : Nat) (h0 : 0 < k) (h : k ≤ m) : n / 2 ^ (m - (k - 1)) = n / 2 ^ (m - k) / 2 := by
  have e : m - (k - 1) = (m - k) + 1 := by omega
  rw [e, Nat.pow_succ, Nat.div_div_eq_div_mul]
theorem dbl (m k : Nat) (h0 : 0 < k) (h : k ≤ m) : 2 ^ (m - (k - 1)) % 18446744073709551616 = (2 ^ (m - k) % 18446744073709551616) * 2 % 18446744073709551616 := by
  have e : m - (k - 1) = (m - k) + 1 := by omega
  rw [e, Nat.pow_succ, Nat.mod_mul_mod]
end Go.Proofs.Ytpimflmmfnffeaa.Fld

/- Walks over package field. -/
namespace Go.Proofs.Ytpimflmmfnffeaa
open Go.RowKit

def rightB (a s : Int) : Bool := decide (1 ≤ s ∧ s ≤ 64 ∧ 0 ≤ a ∧ a + s ≤ 64)

theorem rightB_t {a s : Int} (h : 1 ≤ s ∧ s ≤ 64 ∧ 0 ≤ a ∧ a + s ≤ 64) : rightB a s = true := decide_eq_true h

theorem rightB_f {a s : Int} (h : ¬ (1 ≤ s ∧ s ≤ 64 ∧ 0 ≤ a ∧ a + s ≤ 64)) : rightB a s = false := decide_eq_false h

set_option maxHeartbeats 400000 in
theorem right_any (a s : Int) (w : World) :
    Calls Try.prog 48 #[.agg #[.int .i64 a, .int .i64 s]] w fun e w' => e = .returned (.bool (rightB a s)) ∧ Below w.heap.size w w' := by
  go_enter Try.func48, Try.ntmps48
  go_wp2
  all_goals go_ret
  all_goals refine ⟨ret_bool ?_, below1 _ _⟩
  all_goals unfold rightB
  all_goals first | (simp; done) | (simp; omega) | (rw [decide_eq_decide]; omega)

/-- the greatest number of s bits -/
def mostI (s : Int) : Int := 2 ^ s.toNat - 1

theorem most_int (s : Int) (h1 : 1 ≤ s) (h2 : s ≤ 64) : (18446744073709551615 : Int) / 2 ^ (64 - s).toNat = mostI s := by
  unfold mostI
  obtain ⟨n, rfl⟩ := Int.eq_ofNat_of_zero_le (show 0 ≤ s by omega)
  have h := Fld.most_eq n (by omega) (by omega)
  have e : (64 - (n : Int)).toNat = 64 - n := by omega
  rw [e, Int.toNat_natCast]
  have h0 := Nat.two_pow_pos n
  have h' : ((18446744073709551615 / 2 ^ (64 - n) : Nat) : Int) = ((2 ^ n - 1 : Nat) : Int) := by rw [h]
  rw [Int.natCast_ediv, Int.natCast_sub (by omega)] at h'
  simpa using h'

theorem two_pow_lt (s : Int) (h1 : 1 ≤ s) (h2 : s ≤ 64) : 0 ≤ mostI s ∧ mostI s ≤ 18446744073709551615 := by
  unfold mostI
  have h : ∀ k : Fin 65, (0 : Int) ≤ 2 ^ k.val - 1 ∧ (2 : Int) ^ k.val - 1 ≤ 18446744073709551615 := by decide
  exact h ⟨s.toNat, by omega⟩

set_option maxHeartbeats 400000 in
theorem most_yes (a s : Int) (w : World) (h1 : 1 ≤ s) (h2 : s ≤ 64) (h3 : 0 ≤ a) (h4 : a + s ≤ 64) :
    Calls Try.prog 49 #[.agg #[.int .i64 a, .int .i64 s]] w fun e w' => e = .returned (.int .u64 (mostI s)) ∧ Below w.heap.size w w' := by
  have hr := rightB_t ⟨h1, h2, h3, h4⟩
  go_enter Try.func49, Try.ntmps49
  go_wp2_with (go_at_call 48; refine (right_any _ _ _).mono ?_; rintro e w' ⟨rfl, hb⟩; obtain ⟨hc, hf⟩ := bcell hb)
  go_ret
  exact ⟨ret_int (most_int s h1 h2), (below1 _ _).trans (hb.mono (by simp))⟩

set_option maxHeartbeats 400000 in
theorem most_no (a s : Int) (w : World) (h : rightB a s = false) :
    Calls Try.prog 49 #[.agg #[.int .i64 a, .int .i64 s]] w fun e w' => e = .returned (.int .u64 0) ∧ Below w.heap.size w w' := by
  go_enter Try.func49, Try.ntmps49
  go_wp2_with (go_at_call 48; refine (right_any _ _ _).mono ?_; rintro e w' ⟨rfl, hb⟩; obtain ⟨hc, hf⟩ := bcell hb)
  go_ret
  exact ⟨rfl, (below1 _ _).trans (hb.mono (by simp))⟩

theorem shift_amt (a : Int) (h3 : 0 ≤ a) (h4 : a ≤ 64) : min (IntKind.u64.wrap a).toNat 64 = a.toNat := by
  rw [IntKind.wrap_u64, Int.emod_eq_of_lt h3 (by omega)]; omega

theorem mask_wrap (a s : Int) (h1 : 1 ≤ s) (h2 : s ≤ 64) (h3 : 0 ≤ a) (h4 : a + s ≤ 64) :
    IntKind.u64.wrap (mostI s * 2 ^ min (IntKind.u64.wrap a).toNat 64) = mostI s * 2 ^ a.toNat := by
  unfold mostI
  rw [shift_amt a h3 (by omega), IntKind.wrap_u64]
  have h := Fld.mask_lt a.toNat s.toNat (by omega)
  have h0 := Nat.two_pow_pos s.toNat
  have e : ((2 : Int) ^ s.toNat - 1) * 2 ^ a.toNat = (((2 ^ s.toNat - 1) * 2 ^ a.toNat : Nat) : Int) := by
    rw [Int.natCast_mul, Int.natCast_sub (by omega)]; simp
  rw [e, Int.emod_eq_of_lt (by omega) (by omega)]

set_option maxHeartbeats 400000 in
theorem mask_yes (a s : Int) (w : World) (h1 : 1 ≤ s) (h2 : s ≤ 64) (h3 : 0 ≤ a) (h4 : a + s ≤ 64) :
    Calls Try.prog 44 #[.agg #[.int .i64 a, .int .i64 s]] w fun e w' => e = .returned (.int .u64 (mostI s * 2 ^ a.toNat)) ∧ Below w.heap.size w w' := by
  have ht := two_pow_lt s h1 h2
  go_enter Try.func44, Try.ntmps44
  go_wp2
  go_region_held3 (fun w' => Below (w.alloc (Obj.cells #[.int .i64 a, .int .i64 s] 108)).heap.size (w.alloc (Obj.cells #[.int .i64 a, .int .i64 s] 108)) w' ∧ w'.cell? ⟨w.heap.size, 0, none⟩ = some (.int .i64 a) ∧ w'.cell? ⟨w.heap.size, 1, none⟩ = some (.int .i64 s))
    (first | (refine ⟨(Below.refl _ _).drew, ?_, ?_⟩ <;> (simp; done)) | exact keep2 ‹_› hb)
    (first | (go_at_call 49; refine (most_yes _ _ _ h1 h2 h3 h4).mono ?_; rintro e w' ⟨rfl, hb⟩))
  go_wp2
  go_ret
  refine ⟨ret_int (mask_wrap a s h1 h2 h3 h4), ?_⟩
  exact bstep (below1 _ _).drew (Nat.le_refl _) hb

set_option maxHeartbeats 400000 in
theorem get_no (a s x : Int) (w : World) (h : rightB a s = false) :
    Calls Try.prog 47 #[.agg #[.int .i64 a, .int .i64 s], .int .u64 x] w fun e w' => e = .returned (.int .u64 0) ∧ Below w.heap.size w w' := by
  go_enter Try.func47, Try.ntmps47
  go_wp2_with (go_at_call 48; refine (right_any _ _ _).mono ?_; rintro e w' ⟨rfl, hb⟩; obtain ⟨hc, hf⟩ := bcell hb)
  go_ret
  exact ⟨rfl, bstep (below1 _ _) (Nat.le_refl _) hb⟩

theorem get_wrap (a s x : Int) (h1 : 1 ≤ s) (h2 : s ≤ 64) (h3 : 0 ≤ a) (h4 : a + s ≤ 64) (x0 : 0 ≤ x) (x1 : x < 18446744073709551616) :
    bits BinOp.and IntKind.u64 (x / 2 ^ min (IntKind.u64.wrap a).toNat 64) (mostI s) = (Fld.getN a.toNat s.toNat x.toNat : Nat) := by
  rw [shift_amt a h3 (by omega)]
  obtain ⟨n, rfl⟩ := Int.eq_ofNat_of_zero_le x0
  have ht := two_pow_lt s h1 h2
  unfold mostI at ht ⊢
  have e1 : (n : Int) / 2 ^ a.toNat = ((n / 2 ^ a.toNat : Nat) : Int) := by rw [Int.natCast_ediv]; simp
  have e2 : ((2 : Int) ^ s.toNat - 1) = ((2 ^ s.toNat - 1 : Nat) : Int) := by
    have := Nat.two_pow_pos s.toNat
    rw [Int.natCast_sub (by omega)]; simp
  have hd : n / 2 ^ a.toNat ≤ n := Nat.div_le_self _ _
  rw [e1, e2, u64_and_nat _ _ (by omega) (by omega), Fld.get_bits, Int.toNat_natCast]

set_option maxHeartbeats 400000 in
theorem get_yes (a s x : Int) (w : World) (h1 : 1 ≤ s) (h2 : s ≤ 64) (h3 : 0 ≤ a) (h4 : a + s ≤ 64) (x0 : 0 ≤ x) (x1 : x < 18446744073709551616) :
    Calls Try.prog 47 #[.agg #[.int .i64 a, .int .i64 s], .int .u64 x] w fun e w' => e = .returned (.int .u64 (Fld.getN a.toNat s.toNat x.toNat)) ∧ Below w.heap.size w w' := by
  have hr := rightB_t ⟨h1, h2, h3, h4⟩
  go_enter Try.func47, Try.ntmps47
  go_wp2_with (go_at_call 48; refine (right_any _ _ _).mono ?_; rintro e w1 ⟨rfl, hb⟩)
  have hB := bstep (below1 _ _) (Nat.le_refl _) hb
  have c0 : w1.cell? ⟨w.heap.size, 0, none⟩ = some (.int .i64 a) := kcell hb (by simp)
  have c1 : w1.cell? ⟨w.heap.size, 1, none⟩ = some (.int .i64 s) := kcell hb (by simp)
  clear hb
  go_region_held3 (fun w' => Below w1.heap.size w1 w' ∧ w'.cell? ⟨w.heap.size, 0, none⟩ = some (.int .i64 a) ∧ w'.cell? ⟨w.heap.size, 1, none⟩ = some (.int .i64 s))
    (first | exact ⟨(Below.refl _ _).drew, c0, c1⟩ | exact keep2 ‹_› hb)
    (first | (go_at_call 49; refine (most_yes _ _ _ h1 h2 h3 h4).mono ?_; rintro e w' ⟨rfl, hb⟩))
  go_wp2
  go_ret
  exact ⟨ret_int (get_wrap a s x h1 h2 h3 h4 x0 x1), bstep hB.drew (Nat.le_refl _) hb⟩

set_option maxHeartbeats 400000 in
theorem put_no (a s x n : Int) (w : World) (h : rightB a s = false) :
    Calls Try.prog 43 #[.agg #[.int .i64 a, .int .i64 s], .int .u64 x, .int .u64 n] w fun e w' => e = .returned (.tuple #[.int .u64 0, .int .i64 1]) ∧ Below w.heap.size w w' := by
  go_enter Try.func43, Try.ntmps43
  go_wp2_with (go_at_call 48; refine (right_any _ _ _).mono ?_; rintro e w' ⟨rfl, hb⟩; obtain ⟨hc, hf⟩ := bcell hb)
  go_ret2
  exact ⟨rfl, bstep (below1 _ _) (Nat.le_refl _) hb⟩

set_option maxHeartbeats 400000 in
theorem put_big (a s x n : Int) (w : World) (h1 : 1 ≤ s) (h2 : s ≤ 64) (h3 : 0 ≤ a) (h4 : a + s ≤ 64) (hn : mostI s < n) :
    Calls Try.prog 43 #[.agg #[.int .i64 a, .int .i64 s], .int .u64 x, .int .u64 n] w fun e w' => e = .returned (.tuple #[.int .u64 0, .int .i64 1]) ∧ Below w.heap.size w w' := by
  have hr := rightB_t ⟨h1, h2, h3, h4⟩
  go_enter Try.func43, Try.ntmps43
  go_wp2_with (first | (go_at_call 48; refine (right_any _ _ _).mono ?_; rintro e w' ⟨rfl, hb⟩; obtain ⟨hc, hf⟩ := bcell hb) | (go_at_call 49; refine (most_yes _ _ _ h1 h2 h3 h4).mono ?_; rintro e w2 ⟨rfl, hb2⟩; obtain ⟨hc2, hf2⟩ := bcell hb2))
  go_ret2
  exact ⟨rfl, bstep (bstep (below1 _ _) (Nat.le_refl _) hb) (Nat.le_refl _) hb2⟩

theorem put_wrap (a s x n : Int) (h1 : 1 ≤ s) (h2 : s ≤ 64) (h3 : 0 ≤ a) (h4 : a + s ≤ 64) (x0 : 0 ≤ x) (x1 : x < 18446744073709551616) (n0 : 0 ≤ n) (hn : n ≤ mostI s) :
    bits BinOp.or IntKind.u64 (bits BinOp.andNot IntKind.u64 x (mostI s * 2 ^ a.toNat)) (IntKind.u64.wrap (n * 2 ^ min (IntKind.u64.wrap a).toNat 64)) = (Fld.putN a.toNat s.toNat x.toNat n.toNat : Nat) := by
  unfold mostI at hn ⊢
  rw [shift_amt a h3 (by omega), IntKind.wrap_u64]
  obtain ⟨X, rfl⟩ := Int.eq_ofNat_of_zero_le x0
  obtain ⟨N, rfl⟩ := Int.eq_ofNat_of_zero_le n0
  have hp := Nat.two_pow_pos s.toNat
  have hN : N < 2 ^ s.toNat := by
    have : ((2 : Int) ^ s.toNat) = ((2 ^ s.toNat : Nat) : Int) := by simp
    omega
  have e1 : ((2 : Int) ^ s.toNat - 1) * 2 ^ a.toNat = (((2 ^ s.toNat - 1) * 2 ^ a.toNat : Nat) : Int) := by
    rw [Int.natCast_mul, Int.natCast_sub (by omega)]; simp
  have e2 : (N : Int) * 2 ^ a.toNat = ((N * 2 ^ a.toNat : Nat) : Int) := by rw [Int.natCast_mul]; simp
  have hm := Fld.mask_lt a.toNat s.toNat (by omega)
  have hNa : N * 2 ^ a.toNat < 18446744073709551616 := Nat.lt_of_le_of_lt (Nat.mul_le_mul_right _ (by omega)) hm
  have hX : X &&& (18446744073709551615 - (2 ^ s.toNat - 1) * 2 ^ a.toNat) ≤ X := Nat.and_le_left
  rw [e1, e2, Int.emod_eq_of_lt (by omega) (by omega), u64_andNot_nat _ _ (by omega) hm, u64_or_nat _ _ (by omega) hNa,
    Fld.put_bits _ _ _ _ (by omega) (by omega) hN, Int.toNat_natCast, Int.toNat_natCast]

set_option maxHeartbeats 400000 in
theorem put_yes (a s x n : Int) (w : World) (h1 : 1 ≤ s) (h2 : s ≤ 64) (h3 : 0 ≤ a) (h4 : a + s ≤ 64) (x0 : 0 ≤ x) (x1 : x < 18446744073709551616) (n0 : 0 ≤ n) (hn : n ≤ mostI s) :
    Calls Try.prog 43 #[.agg #[.int .i64 a, .int .i64 s], .int .u64 x, .int .u64 n] w fun e w' => e = .returned (.tuple #[.int .u64 (Fld.putN a.toNat s.toNat x.toNat n.toNat), .int .i64 0]) ∧ Below w.heap.size w w' := by
  have hr := rightB_t ⟨h1, h2, h3, h4⟩
  go_enter Try.func43, Try.ntmps43
  go_wp2_with (first | (go_at_call 48; refine (right_any _ _ _).mono ?_; rintro e w' ⟨rfl, hb⟩; obtain ⟨hc, hf⟩ := bcell hb) | (go_at_call 49; refine (most_yes _ _ _ h1 h2 h3 h4).mono ?_; rintro e w1 ⟨rfl, hb2⟩))
  have hB := bstep (bstep (below1 _ _) (Nat.le_refl _) hb) (Nat.le_refl _) hb2
  have c0 : w1.cell? ⟨w.heap.size, 0, none⟩ = some (.int .i64 a) := kcell hb2 (kcell hb (by simp))
  have c1 : w1.cell? ⟨w.heap.size, 1, none⟩ = some (.int .i64 s) := kcell hb2 (kcell hb (by simp))
  clear hb2 hb hc hf
  go_region_held3 (fun w' => Below w1.heap.size w1 w' ∧ w'.cell? ⟨w.heap.size, 0, none⟩ = some (.int .i64 a) ∧ w'.cell? ⟨w.heap.size, 1, none⟩ = some (.int .i64 s))
    (first | exact ⟨(Below.refl _ _).drew, c0, c1⟩ | exact keep2 ‹_› hb)
    (first | (go_at_call 44; refine (mask_yes _ _ _ h1 h2 h3 h4).mono ?_; rintro e w' ⟨rfl, hb⟩))
  go_wp2
  go_ret2
  exact ⟨congrArg (fun v => Ending.returned (.tuple #[.int .u64 v, .int .i64 0])) (put_wrap a s x n h1 h2 h3 h4 x0 x1 n0 hn), bstep hB.drew (Nat.le_refl _) hb⟩
end Go.Proofs.Ytpimflmmfnffeaa

/- Plain: fields side by side; words of several numbers. -/
namespace Go.Proofs.Ytpimflmmfnffeaa

structure Fl where
  at_ : Int
  size : Int

def rightF (f : Fl) : Bool := rightB f.at_ f.size
theorem rightF_t {f : Fl} (h : rightF f = true) : 1 ≤ f.size ∧ f.size ≤ 64 ∧ 0 ≤ f.at_ ∧ f.at_ + f.size ≤ 64 := of_decide_eq_true h
def apartB (f g : Fl) : Bool := !rightF f || !rightF g || decide (f.at_ + f.size ≤ g.at_ ∨ g.at_ + g.size ≤ f.at_)
def maskN (f : Fl) : Nat := (2 ^ f.size.toNat - 1) * 2 ^ f.at_.toNat
theorem maskN_lt {f : Fl} (h : rightF f = true) : maskN f < 2 ^ 64 := by
  have := rightF_t h
  exact Fld.mask_lt _ _ (by omega)
theorem mask_int {f : Fl} : mostI f.size * 2 ^ f.at_.toNat = (maskN f : Int) := by
  unfold mostI maskN
  have := Nat.two_pow_pos f.size.toNat
  rw [Int.natCast_mul, Int.natCast_sub (by omega)]; simp

theorem and_zero_iff (x y : Nat) : x &&& y = 0 ↔ ∀ j, (x.testBit j && y.testBit j) = false := by
  constructor
  · intro h j
    rw [← Nat.testBit_and, h, Nat.zero_testBit]
  · intro h
    apply Nat.eq_of_testBit_eq
    intro j
    rw [Nat.testBit_and, h j, Nat.zero_testBit]
theorem apart_mask {f g : Fl} (hf : rightF f = true) (hg : rightF g = true) : (maskN f &&& maskN g = 0) ↔ (f.at_ + f.size ≤ g.at_ ∨ g.at_ + g.size ≤ f.at_) := by
  have h1 := rightF_t hf
  have h2 := rightF_t hg
  rw [and_zero_iff]
  unfold maskN
  constructor
  · intro h
    have := h (max f.at_.toNat g.at_.toNat)
    rw [Fld.testBit_mask, Fld.testBit_mask] at this
    simp at this
    omega
  · intro h j
    rw [Fld.testBit_mask, Fld.testBit_mask]
    simp
    omega
theorem apart_t {f g : Fl} (hf : rightF f = true) (hg : rightF g = true) : apartB f g = decide (maskN f &&& maskN g = 0) := by
  unfold apartB
  rw [hf, hg]
  simp [apart_mask hf hg]
theorem apart_f1 {f g : Fl} (hf : rightF f = false) : apartB f g = true := by unfold apartB; rw [hf]; rfl
theorem apart_f2 {f g : Fl} (hg : rightF g = false) : apartB f g = true := by unfold apartB; rw [hg]; simp

/-- does a number not go in a field, behind others? -/
def bad (pre : List Fl) (f : Fl) (x : Int) : Bool := !rightF f || decide (mostI f.size < x) || pre.any (fun g => !apartB f g)
def badAt (l : List Fl) (n : List Int) (k : Nat) : Bool :=
  match l[k]?, n[k]? with
  | some f, some x => bad (l.take k) f x
  | _, _ => true
theorem badAt_eq (l : List Fl) (n : List Int) (k : Nat) (h : k < l.length) (h2 : k < n.length) : badAt l n k = bad (l.take k) l[k] n[k] := by
  unfold badAt
  rw [List.getElem?_eq_getElem h, List.getElem?_eq_getElem h2]
def joinB (l : List Fl) (n : List Int) : Nat → Bool
  | 0 => true
  | k + 1 => joinB l n k && !badAt l n k
def wordN (l : List Fl) (n : List Int) : Nat → Nat
  | 0 => 0
  | k + 1 =>
    match l[k]?, n[k]? with
    | some f, some x => Fld.putN f.at_.toNat f.size.toNat (wordN l n k) x.toNat
    | _, _ => 0
theorem wordN_succ (l : List Fl) (n : List Int) (k : Nat) (h : k < l.length) (h2 : k < n.length) : wordN l n (k + 1) = Fld.putN l[k].at_.toNat l[k].size.toNat (wordN l n k) n[k].toNat := by
  rw [wordN, List.getElem?_eq_getElem h, List.getElem?_eq_getElem h2]
def usedN (l : List Fl) : Nat → Nat
  | 0 => 0
  | k + 1 =>
    match l[k]? with
    | some f => usedN l k ||| maskN f
    | none => usedN l k
theorem usedN_succ (l : List Fl) (k : Nat) (h : k < l.length) : usedN l (k + 1) = usedN l k ||| maskN l[k] := by
  rw [usedN, List.getElem?_eq_getElem h]

theorem joinB_le {l : List Fl} {n : List Int} {m k : Nat} (h : joinB l n m = true) (hk : k ≤ m) : joinB l n k = true := by
  induction m with
  | zero => obtain rfl : k = 0 := by omega
            exact h
  | succ m ih =>
    by_cases he : k = m + 1
    · rw [he]; exact h
    · rw [joinB, Bool.and_eq_true] at h
      exact ih h.1 (by omega)
theorem joinB_at {l : List Fl} {n : List Int} {m k : Nat} (h : joinB l n m = true) (hk : k < m) : badAt l n k = false := by
  have := joinB_le h (show k + 1 ≤ m by omega)
  rw [joinB, Bool.and_eq_true] at this
  simpa using this.2
theorem bad_f {pre : List Fl} {f : Fl} {x : Int} (h : bad pre f x = false) : rightF f = true ∧ x ≤ mostI f.size ∧ ∀ g ∈ pre, apartB f g = true := by
  unfold bad at h
  simp only [Bool.or_eq_false_iff, Bool.not_eq_false', decide_eq_false_iff_not, List.any_eq_false] at h
  refine ⟨h.1.1, by omega, fun g hg => ?_⟩
  have := h.2 g hg
  simpa using this
theorem joinB_right {l : List Fl} {n : List Int} {m i : Nat} (h : joinB l n m = true) (hl : m ≤ l.length) (hn : m ≤ n.length) (hi : i < m) : rightF (l[i]'(by omega)) = true ∧ n[i]'(by omega) ≤ mostI (l[i]'(by omega)).size ∧ ∀ j (hj : j < i), apartB (l[i]'(by omega)) (l[j]'(by omega)) = true := by
  have h1 := joinB_at h hi
  rw [badAt_eq l n i (by omega) (by omega)] at h1
  obtain ⟨a, b, c⟩ := bad_f h1
  refine ⟨a, b, fun j hj => c _ ?_⟩
  rw [List.mem_take_iff_getElem]
  exact ⟨j, by omega, rfl⟩
theorem num_lt {s x : Int} (hx : x ≤ mostI s) (h0 : 0 ≤ x) : x.toNat < 2 ^ s.toNat := by
  unfold mostI at hx
  have : ((2 : Int) ^ s.toNat) = ((2 ^ s.toNat : Nat) : Int) := by simp
  omega
theorem wordN_lt {l : List Fl} {n : List Int} (h0 : ∀ x ∈ n, 0 ≤ x) : ∀ {k : Nat}, joinB l n k = true → k ≤ l.length → k ≤ n.length → wordN l n k < 2 ^ 64
  | 0, _, _, _ => by simp [wordN]
  | k + 1, h, hl, hn => by
    rw [wordN_succ l n k hl hn]
    have hr := joinB_right h hl hn (show k < k + 1 by omega)
    have h1 := rightF_t hr.1
    exact Fld.put_lt _ _ _ _ 64 (num_lt hr.2.1 (h0 _ (List.getElem_mem _))) (by omega) (wordN_lt h0 (joinB_le h (by omega)) (by omega) (by omega))
theorem usedN_lt {l : List Fl} {n : List Int} : ∀ {k : Nat}, joinB l n k = true → k ≤ l.length → k ≤ n.length → usedN l k < 2 ^ 64
  | 0, _, _, _ => by simp [usedN]
  | k + 1, h, hl, hn => by
    rw [usedN_succ l k hl]
    exact Nat.or_lt_two_pow (usedN_lt (joinB_le h (by omega)) (by omega) (by omega)) (maskN_lt (joinB_right h hl hn (show k < k + 1 by omega)).1)
theorem and_or_zero (x y z : Nat) : (x ||| y) &&& z = 0 ↔ x &&& z = 0 ∧ y &&& z = 0 := by
  rw [and_zero_iff, and_zero_iff, and_zero_iff]
  simp only [Nat.testBit_or]
  constructor
  · intro h
    exact ⟨fun j => by have := h j; revert this; cases x.testBit j <;> cases z.testBit j <;> simp, fun j => by have := h j; revert this; cases y.testBit j <;> cases z.testBit j <;> simp⟩
  · rintro ⟨h1, h2⟩ j
    have a := h1 j
    have b := h2 j
    revert a b
    cases x.testBit j <;> cases y.testBit j <;> cases z.testBit j <;> simp
/-- the bits in use, and a field that is to come -/
theorem used_and {l : List Fl} {n : List Int} (f : Fl) (hf : rightF f = true) : ∀ {k : Nat}, joinB l n k = true → k ≤ l.length → k ≤ n.length → (usedN l k &&& maskN f = 0 ↔ (l.take k).any (fun g => !apartB f g) = false)
  | 0, _, _, _ => by simp [usedN]
  | k + 1, h, hl, hn => by
    have ih := used_and f hf (joinB_le h (show k ≤ k + 1 by omega)) (by omega) (by omega)
    rw [usedN_succ l k hl, and_or_zero, ih, List.take_succ_eq_append_getElem hl, List.any_append, Bool.or_eq_false_iff]
    have hr := (joinB_right h hl hn (show k < k + 1 by omega)).1
    refine and_congr Iff.rfl ?_
    rw [Nat.and_comm]
    simp [apart_t hf hr]

/-- what is put in a field stays, whatever is put in one that is apart from it -/
theorem get_far {f g : Fl} (hf : rightF f = true) (hg : rightF g = true) (ha : apartB g f = true) (x n : Nat) (hn : n < 2 ^ g.size.toNat) :
    Fld.getN f.at_.toNat f.size.toNat (Fld.putN g.at_.toNat g.size.toNat x n) = Fld.getN f.at_.toNat f.size.toNat x := by
  have h1 := rightF_t hf
  have h2 := rightF_t hg
  rw [apart_t hg hf, decide_eq_true_eq, apart_mask hg hf] at ha
  unfold Fld.getN
  apply Nat.eq_of_testBit_eq
  intro j
  rw [Nat.testBit_mod_two_pow, Nat.testBit_mod_two_pow, Fld.div_testBit, Fld.div_testBit, Fld.testBit_put _ _ _ _ _ hn]
  by_cases hj : j < f.size.toNat
  · simp only [hj, decide_true, Bool.true_and]
    rcases ha with ha | ha
    · rw [if_neg (by omega), if_neg (by omega)]
    · rw [if_pos (by omega)]
  · simp [hj]
theorem word_get {l : List Fl} {n : List Int} (h0 : ∀ x ∈ n, 0 ≤ x) : ∀ {m : Nat}, joinB l n m = true → ∀ (hl : m ≤ l.length) (hn : m ≤ n.length) (i : Nat) (hi : i < m),
    ((Fld.getN (l[i]'(by omega)).at_.toNat (l[i]'(by omega)).size.toNat (wordN l n m) : Nat) : Int) = n[i]'(by omega)
  | 0, _, _, _, i, hi => by omega
  | m + 1, h, hl, hn, i, hi => by
    have hr := joinB_right h hl hn (show m < m + 1 by omega)
    have hx := num_lt hr.2.1 (h0 _ (List.getElem_mem _))
    rw [wordN_succ l n m hl hn]
    by_cases he : i = m
    · subst he
      rw [Fld.get_put _ _ _ _ hx]
      exact Int.toNat_of_nonneg (h0 _ (List.getElem_mem _))
    · rw [get_far (joinB_right h hl hn hi).1 hr.1 (hr.2.2 i (by omega)) _ _ hx]
      exact word_get h0 (joinB_le h (by omega)) (by omega) (by omega) i (by omega)

/-- what stands in a field; 0: a word has none such -/
def getF (f : Fl) (x : Int) : Int := if rightF f then (Fld.getN f.at_.toNat f.size.toNat x.toNat : Nat) else 0
end Go.Proofs.Ytpimflmmfnffeaa

/- Fields as lists. -/
namespace Go.Proofs.Ytpimflmmfnffeaa
open Go.RowKit

def eF (f : Fl) : List Value := [.int .i64 f.at_, .int .i64 f.size]

theorem eF_ok : EncOk eF 2 := ⟨fun _ => rfl, fun x u hu => by simp [eF] at hu; rcases hu with rfl | rfl <;> rfl⟩

theorem Sl.fl_at {w : World} {A : Option Addr} {xs : List Fl} {i : Nat} (h : Sl eF 2 w A xs) (hi : i < xs.length) :
    ∃ b off, A = some ⟨b, off, none⟩ ∧ w.cell? ⟨b, off + i * 2, none⟩ = some (.int .i64 xs[i].at_) ∧ w.cell? ⟨b, off + i * 2 + 1, none⟩ = some (.int .i64 xs[i].size) := by
  obtain ⟨b, off, hA, hc⟩ := h.at_ hi
  exact ⟨b, off, hA, by simpa using hc 0 _ (show (eF xs[i])[0]? = some (.int .i64 xs[i].at_) from rfl), by simpa [Nat.add_assoc] using hc 1 _ (show (eF xs[i])[1]? = some (.int .i64 xs[i].size) from rfl)⟩

theorem mask_at (f : Fl) (w : World) (h : rightF f = true) :
    Calls Try.prog 44 #[.agg #[.int .i64 f.at_, .int .i64 f.size]] w fun e w' => e = .returned (.int .u64 (maskN f : Nat)) ∧ Below w.heap.size w w' := by
  have h1 := rightF_t h
  have := mask_yes f.at_ f.size w h1.1 h1.2.1 h1.2.2.1 h1.2.2.2
  rw [mask_int] at this
  exact this

theorem right_at (f : Fl) (w : World) : Calls Try.prog 48 #[.agg #[.int .i64 f.at_, .int .i64 f.size]] w fun e w' => e = .returned (.bool (rightF f)) ∧ Below w.heap.size w w' := right_any _ _ _

theorem and_test {x y : Nat} (hx : x < 2 ^ 64) (hy : y < 2 ^ 64) : (bits BinOp.and IntKind.u64 (x : Int) (y : Int) == 0) = decide (x &&& y = 0) := by
  rw [u64_and_nat _ _ (by omega) (by omega), Bool.eq_iff_iff]
  simp
end Go.Proofs.Ytpimflmmfnffeaa

/- Walks: Join and Split, and the document's Join. -/
namespace Go.Proofs.Ytpimflmmfnffeaa
open Go.RowKit

theorem and_ne {x y : Nat} (hx : x < 2 ^ 64) (hy : y < 2 ^ 64) : (bits BinOp.and IntKind.u64 (x : Int) (y : Int) != 0) = !decide (x &&& y = 0) := by
  rw [← and_test hx hy]; rfl
theorem or_val {x y : Nat} (hx : x < 2 ^ 64) (hy : y < 2 ^ 64) : bits BinOp.or IntKind.u64 (x : Int) (y : Int) = ((x ||| y : Nat) : Int) := u64_or_nat _ _ (by omega) (by omega)

/-- the word of numbers in fields, and an error -/
def joinV (l : List Fl) (n : List Int) : Value := if joinB l n l.length then .tuple #[.int .u64 (wordN l n l.length : Nat), .int .i64 0] else .tuple #[.int .u64 0, .int .i64 1]
def joinW (l : List Fl) (n : List Int) : Value := if joinB l n l.length then .tuple #[.int .u64 (wordN l n l.length : Nat), .bool true] else .tuple #[.int .u64 0, .bool false]
theorem join_no {l : List Fl} {n : List Int} {k : Nat} (hk : k < l.length) (h2 : k < n.length) (h : bad (l.take k) l[k] n[k] = true) : joinB l n l.length = false := by
  cases hj : joinB l n l.length
  · rfl
  · have := joinB_at hj hk
    rw [badAt_eq l n k hk h2, h] at this
    cases this
theorem join_yes {l : List Fl} {n : List Int} {k : Nat} (hk : k < l.length) (h2 : k < n.length) (hj : joinB l n k = true) (h : bad (l.take k) l[k] n[k] = false) : joinB l n (k + 1) = true := by
  rw [joinB, hj, badAt_eq l n k hk h2, h]; rfl
theorem bad_right {pre : List Fl} {f : Fl} {x : Int} (h : rightF f = false) : bad pre f x = true := by unfold bad; rw [h]; rfl
theorem bad_big {pre : List Fl} {f : Fl} {x : Int} (h : mostI f.size < x) : bad pre f x = true := by unfold bad; simp [h]
theorem bad_any {pre : List Fl} {f : Fl} {x : Int} (h : pre.any (fun g => !apartB f g) = true) : bad pre f x = true := by unfold bad; rw [h]; simp
theorem bad_none {pre : List Fl} {f : Fl} {x : Int} (h1 : rightF f = true) (h2 : ¬ mostI f.size < x) (h : pre.any (fun g => !apartB f g) = false) : bad pre f x = false := by unfold bad; rw [h, h1]; simp; omega

set_option maxHeartbeats 1000000 in
theorem join_len (A B : Option Addr) (l : List Fl) (n : List Int) (c d : Nat) (w : World) (h : ¬ l.length = n.length) (h1 : l.length ≤ 40) (h2 : n.length ≤ 40) :
    Calls Try.prog 35 #[.slice A l.length c, .slice B n.length d] w fun e w' => e = .returned (.tuple #[.int .u64 0, .int .i64 1]) ∧ Below w.heap.size w w' := by
  have hne : ((l.length : Int) != (n.length : Int)) = true := by simp; omega
  go_enter Try.func35, Try.ntmps35
  go_wp2
  go_ret2
  exact ⟨rfl, Below.refl _ _⟩

set_option maxRecDepth 100000 in
set_option maxHeartbeats 4000000 in
theorem join_any (A B : Option Addr) (l : List Fl) (n : List Int) (c d : Nat) (w : World) (hs : Sl eF 2 w A l) (hn : Sl eU 1 w B n) (h : l.length = n.length) (h1 : l.length ≤ 40) (hn0 : ∀ x ∈ n, 0 ≤ x) :
    Calls Try.prog 35 #[.slice A l.length c, .slice B n.length d] w fun e w' => e = .returned (joinV l n) ∧ Below w.heap.size w w' := by
  have hne : ((l.length : Int) != (n.length : Int)) = false := by rw [h]; simp
  have HL := Lib.hid h
  have hl2 : l.length ≤ n.length := by omega
  have HN0 := Lib.hid hn0
  clear h hn0
  go_enter Try.func35, Try.ntmps35
  go_wp2
  go_loopw [6, 7, 19] (fun wd us i wr => ∃ (k : Nat) (x u : Nat), k ≤ l.length ∧ i = .int .i64 k ∧ wd = .int .u64 x ∧ us = .int .u64 u ∧ Hid (joinB l n k = true) ∧ Hid (x = wordN l n k) ∧ Hid (u = usedN l k) ∧ Below w.heap.size w wr) (fun _ _ i _ => l.length - (intOf i).toNat)
  case atStart => exact ⟨0, 0, 0, Nat.zero_le _, rfl, rfl, rfl, rfl, rfl, rfl, Below.refl _ _⟩
  case round =>
    obtain ⟨k, x, u, hk, rfl, rfl, rfl, HJ, HX, HU, hB⟩ := hrel
    by_cases hlt : k < l.length
    · have hlt2 : k < n.length := by omega
      obtain ⟨b, off, rfl, c0, c1⟩ := (hs.keep hB).fl_at hlt
      obtain ⟨b2, off2, rfl, c2⟩ := (hn.keep hB).u64_at hlt2
      have hx : x < 18446744073709551616 := by have := wordN_lt HN0.out HJ.out hk (by omega); rw [← HX.out] at this; exact this
      have hu : u < 18446744073709551616 := by have := usedN_lt HJ.out hk (by omega); rw [← HU.out] at this; exact this
      have hnk : 0 ≤ n[k] := HN0.out _ (List.getElem_mem _)
      have HJN := Lib.hid (join_no (l := l) (n := n) hlt hlt2)
      have HJY := Lib.hid (join_yes (l := l) (n := n) hlt hlt2 HJ.out)
      have HWS := Lib.hid (wordN_succ l n k hlt hlt2)
      have HUS := Lib.hid (usedN_succ l k hlt)
      have HUA := Lib.hid (fun hr : rightF l[k] = true => used_and l[k] hr HJ.out hk (by omega))
      have k0 : (0 : Int) ≤ (k : Int) := by omega
      have k1 : (k : Int) < (n.length : Int) := by omega
      generalize l[k] = f at *
      generalize n[k] = y at *
      go_wp2
      have d0 : (wr.alloc (Obj.cells #[.int .i64 f.at_, .int .i64 f.size] 108)).cell? ⟨wr.heap.size, 0, none⟩ = some (.int .i64 f.at_) := by simp
      have d1 : (wr.alloc (Obj.cells #[.int .i64 f.at_, .int .i64 f.size] 108)).cell? ⟨wr.heap.size, 1, none⟩ = some (.int .i64 f.size) := by simp
      replace c2 := kcell (below1 wr (Obj.cells #[.int .i64 f.at_, .int .i64 f.size] 108)) c2
      replace hB := hB.alloc hB.size (Obj.cells #[.int .i64 f.at_, .int .i64 f.size] 108)
      clear c0 c1
      generalize hgw : (wr.alloc (Obj.cells #[.int .i64 f.at_, .int .i64 f.size] 108)) = w5 at *
      clear hgw
      by_cases hr : rightF f = true
      · have hp := rightF_t hr
        obtain ⟨p1, p2, p3, p4⟩ := hp
        by_cases hbig : mostI f.size < y
        · have HF := Lib.hid (HJN.out (bad_big hbig))
          go_region_held3 (fun w' => Below w5.heap.size w5 w' ∧ w'.cell? ⟨wr.heap.size, 0, none⟩ = some (.int .i64 f.at_) ∧ w'.cell? ⟨wr.heap.size, 1, none⟩ = some (.int .i64 f.size) ∧ w'.cell? ⟨b2, off2 + k, none⟩ = some (.int .u64 y))
            (first | exact ⟨(Below.refl _ _).drew, d0, d1, c2⟩ | exact keep3 ‹_› hb)
            (first | (go_at_call 43; (with_reducible refine (put_big f.at_ f.size _ y _ p1 p2 p3 p4 hbig).mono ?_); rintro e w4 ⟨rfl, hb⟩))
          rename_i hH
          go_wp2
          go_ret2
          exact ⟨by unfold joinV; rw [HF.out]; rfl, bstep hB (Nat.le_refl _) hH.1⟩
        · have hle : y ≤ mostI f.size := by omega
          have hmk := maskN_lt hr
          have HA := Lib.hid (and_ne (show u < 2 ^ 64 from hu) hmk)
          have HO := Lib.hid (or_val (show u < 2 ^ 64 from hu) hmk)
          have HUB := Lib.hid (HUA.out hr)
          have hput := Lib.hid (fun W => put_yes f.at_ f.size x y W p1 p2 p3 p4 (by omega) (by omega) hnk hle)
          rw [Int.toNat_natCast] at hput
          have hmask := Lib.hid (fun W => mask_at f W hr)
          cases hap : (l.take k).any (fun g => !apartB f g)
          · have HY := Lib.hid (HJY.out (bad_none hr hbig hap))
            have ht : (bits BinOp.and IntKind.u64 (u : Int) ((maskN f : Nat) : Int) != 0) = false := by rw [HA.out, HU.out]; simp [HUB.out.2 hap]
            have HXN : Hid (Fld.putN f.at_.toNat f.size.toNat x y.toNat = wordN l n (k + 1)) := by unfold Hid; rw [HWS.out, HX.out]
            have HUN : Hid (u ||| maskN f = usedN l (k + 1)) := by unfold Hid; rw [HUS.out, HU.out]
            clear hap
            generalize maskN f = m at *
            generalize Fld.putN f.at_.toNat f.size.toNat x y.toNat = x2 at *
            go_region_held3 (fun w' => Below w5.heap.size w5 w' ∧ w'.cell? ⟨wr.heap.size, 0, none⟩ = some (.int .i64 f.at_) ∧ w'.cell? ⟨wr.heap.size, 1, none⟩ = some (.int .i64 f.size) ∧ w'.cell? ⟨b2, off2 + k, none⟩ = some (.int .u64 y))
              (first | exact ⟨(Below.refl _ _).drew, d0, d1, c2⟩ | exact keep3 ‹_› hb)
              (first | (go_at_call 43; (with_reducible refine (hput.out _).mono ?_); rintro e w4 ⟨rfl, hb⟩))
            rename_i hH
            have hB2 := bstep hB (Nat.le_refl _) hH.1
            have e0 := hH.2.1
            have e1 := hH.2.2.1
            clear hH d0 d1 c2 hb
            go_wp2_with (go_at_call 44; (with_reducible refine (hmask.out _).mono ?_); rintro e w6 ⟨rfl, hb⟩; replace e0 := kcell hb e0; replace e1 := kcell hb e1; replace hB2 := bstep hB2 (Nat.le_refl _) hb; clear hb)
            go_roundw
            case rel => exact ⟨k + 1, x2, u ||| m, by omega, by go_num, rfl, by rw [HO.out], HY.out, HXN.out, HUN.out, hB2⟩
            case measure => simp [intOf]; omega
          · have HF := Lib.hid (HJN.out (bad_any hap))
            have ht : (bits BinOp.and IntKind.u64 (u : Int) ((maskN f : Nat) : Int) != 0) = true := by
              rw [HA.out, HU.out]
              have : ¬ (usedN l k &&& maskN f = 0) := fun h0 => by have := HUB.out.1 h0; rw [hap] at this; cases this
              simp [this]
            clear hap
            generalize maskN f = m at *
            generalize Fld.putN f.at_.toNat f.size.toNat x y.toNat = x2 at *
            go_region_held3 (fun w' => Below w5.heap.size w5 w' ∧ w'.cell? ⟨wr.heap.size, 0, none⟩ = some (.int .i64 f.at_) ∧ w'.cell? ⟨wr.heap.size, 1, none⟩ = some (.int .i64 f.size) ∧ w'.cell? ⟨b2, off2 + k, none⟩ = some (.int .u64 y))
              (first | exact ⟨(Below.refl _ _).drew, d0, d1, c2⟩ | exact keep3 ‹_› hb)
              (first | (go_at_call 43; (with_reducible refine (hput.out _).mono ?_); rintro e w4 ⟨rfl, hb⟩))
            rename_i hH
            have hB2 := bstep hB (Nat.le_refl _) hH.1
            have e0 := hH.2.1
            have e1 := hH.2.2.1
            clear hH d0 d1 c2 hb
            go_wp2_with (go_at_call 44; (with_reducible refine (hmask.out _).mono ?_); rintro e w6 ⟨rfl, hb⟩; replace e0 := kcell hb e0; replace e1 := kcell hb e1; replace hB2 := bstep hB2 (Nat.le_refl _) hb; clear hb)
            go_ret2
            exact ⟨by unfold joinV; rw [HF.out]; rfl, hB2⟩
      · have hr' : rightF f = false := by simpa using hr
        have HF := Lib.hid (HJN.out (bad_right hr'))
        have hr2 : rightB f.at_ f.size = false := hr'
        clear hr
        go_region_held3 (fun w' => Below w5.heap.size w5 w' ∧ w'.cell? ⟨wr.heap.size, 0, none⟩ = some (.int .i64 f.at_) ∧ w'.cell? ⟨wr.heap.size, 1, none⟩ = some (.int .i64 f.size) ∧ w'.cell? ⟨b2, off2 + k, none⟩ = some (.int .u64 y))
          (first | exact ⟨(Below.refl _ _).drew, d0, d1, c2⟩ | exact keep3 ‹_› hb)
          (first | (go_at_call 43; (with_reducible refine (put_no f.at_ f.size _ y _ hr2).mono ?_); rintro e w4 ⟨rfl, hb⟩))
        rename_i hH
        go_wp2
        go_ret2
        exact ⟨by unfold joinV; rw [HF.out]; rfl, bstep hB (Nat.le_refl _) hH.1⟩
    · obtain rfl : k = l.length := by omega
      go_wp2
      go_ret2
      exact ⟨by unfold joinV; rw [HJ.out, HX.out]; rfl, hB⟩
end Go.Proofs.Ytpimflmmfnffeaa

/- Walks: Split. -/
namespace Go.Proofs.Ytpimflmmfnffeaa
open Go.RowKit

theorem get_at (f : Fl) (x : Int) (w : World) (x0 : 0 ≤ x) (x1 : x < 18446744073709551616) :
    Calls Try.prog 47 #[.agg #[.int .i64 f.at_, .int .i64 f.size], .int .u64 x] w fun e w' => e = .returned (.int .u64 (getF f x)) ∧ Below w.heap.size w w' := by
  unfold getF
  cases hr : rightF f
  · exact get_no _ _ _ _ hr
  · have := rightF_t hr
    exact get_yes _ _ _ _ this.1 this.2.1 this.2.2.1 this.2.2.2 x0 x1

theorem info_u64 : (Try.prog.info? 33).map (fun i => (i.zero, i.size, i.bytes)) = some (some (.int .u64 0), 1, 8) := by kernel_rfl

theorem elU : Elem Try.prog 25 33 1 8 := elem_mk Try.underlying25 info_u64 rfl (by omega)

set_option maxRecDepth 100000 in
set_option maxHeartbeats 4000000 in
theorem split_any (A : Option Addr) (l : List Fl) (x : Int) (c : Nat) (w : World) (hs : Sl eF 2 w A l) (h1 : l.length ≤ 40) (x0 : 0 ≤ x) (x1 : x < 18446744073709551616) :
    Calls Try.prog 40 #[.slice A l.length c, .int .u64 x] w (RetSl eU 1 33 (l.map (getF · x)) w) := by
  obtain ⟨i0, hi0, hz0, hz1, hz2⟩ := info_parts info_u64
  go_enter Try.func40, Try.ntmps40
  go_wp2_with (at_make; refine wpList_make_own _ rfl _ _ 25 rfl w.heap.size 33 i0 _ 1 Try.underlying25 hi0 hz0 hz1 _ _ _ l.length rfl rfl rfl (by rw [hz2]; omega) (by simp only [maxLen]; omega) (Nat.le_refl _) ?_; intro w4 ownW hg4)
  have hB4 : Below w.heap.size w w4 := (Below.refl _ _).grown hg4 (Nat.le_refl _) (fun k hk => by cases hk)
  clear hg4
  go_loopw [5, 13] (fun v i wr => ∃ (k : Nat) (O : Option Addr) (d : Nat), k ≤ l.length ∧ i = .int .i64 k ∧ v = .slice O k d ∧ Own eU 1 wr w.heap.size 33 O d ((l.take k).map (getF · x)) ∧ Below w.heap.size w wr) (fun _ i _ => l.length - (intOf i).toNat)
  case atStart => exact ⟨0, _, _, Nat.zero_le _, rfl, rfl, ownW, hB4⟩
  case round =>
    clear ownW hB4
    obtain ⟨k, O, d, hk, rfl, rfl, own, hB⟩ := hrel
    by_cases hlt : k < l.length
    · obtain ⟨b, off, rfl, c0, c1⟩ := (hs.keep hB).fl_at hlt
      have HR : Hid (((l.take k).map (getF · x)).length = k) := by simp [Hid]; omega
      have hG := Lib.hid (fun W => get_at l[k] x W x0 x1)
      have HS : Hid ((l.take (k + 1)).map (getF · x) = (l.take k).map (getF · x) ++ [getF l[k] x]) := by unfold Hid; rw [List.take_succ_eq_append_getElem hlt, List.map_append]; rfl
      generalize getF l[k] x = y at *
      go_wp2_with (first | (go_at_call 47; (with_reducible refine (hG.out _).mono ?_); rintro e w5 ⟨rfl, hb⟩; replace own := (own.alloc _).keep hb; replace hB := bstep (hB.alloc hB.size _) (Nat.le_refl _) hb; clear hb; have hBs := hB.size) | (at_builtin; refine wpList_append_sl _ rfl _ _ rfl elU eU_ok (own.alloc _) (n := k) HR.out rfl (m := 1) rfl (ys := [y]) rfl (Sl.new eU_ok w5 _ _ rfl _) (by simp only [maxLen]; omega) (by omega) (by simp; omega) _ rfl (k + 1) rfl ?_; intro A1 e1 w1 own1 hg1 at1))
      go_roundw
      case rel => exact ⟨k + 1, A1, e1, by omega, by go_num, rfl, by rw [HS.out]; exact own1, (hB.alloc hB.size _).grown hg1 (by simp; omega) (fun q hq => (own.lt q hq).1)⟩
      case measure => simp [intOf]; omega
    · obtain rfl : k = l.length := by omega
      go_wp2
      go_ret
      exact ⟨O, d, by simp, by simpa using own, hB⟩
theorem info_f : (Try.prog.info? 108).map (fun i => (i.zero, i.size, i.bytes)) = some (some (.agg #[.int .i64 0, .int .i64 0]), 2, 16) := by kernel_rfl

theorem elF : Elem Try.prog 97 108 2 16 := elem_mk Try.underlying97 info_f rfl (by omega)

theorem Sl.fl_c {w : World} {b off : Nat} {xs : List Fl} {i : Nat} (h : Sl eF 2 w (some ⟨b, off, none⟩) xs) (hi : i < xs.length) :
    w.cell? ⟨b, off + i * 2, none⟩ = some (.int .i64 xs[i].at_) ∧ w.cell? ⟨b, off + i * 2 + 1, none⟩ = some (.int .i64 xs[i].size) := by
  obtain ⟨b', off', heq, h1, h2⟩ := h.fl_at hi
  injection heq with heq
  injection heq with q1 q2
  subst q1 q2
  exact ⟨h1, h2⟩

theorem Sl.fl_0 {w : World} {b off : Nat} {xs : List Fl} (h : Sl eF 2 w (some ⟨b, off, none⟩) xs) (hi : 0 < xs.length) :
    w.cell? ⟨b, off, none⟩ = some (.int .i64 xs[0].at_) ∧ w.cell? ⟨b, off + 1, none⟩ = some (.int .i64 xs[0].size) := by
  have := h.fl_c hi
  simpa using this

theorem Sl.u_c {w : World} {b off : Nat} {xs : List Int} {i : Nat} (h : Sl eU 1 w (some ⟨b, off, none⟩) xs) (hi : i < xs.length) : w.cell? ⟨b, off + i, none⟩ = some (.int .u64 xs[i]) := by
  obtain ⟨b', off', heq, h1⟩ := h.u64_at hi
  injection heq with heq
  injection heq with q1 q2
  subst q1 q2
  exact h1

theorem getF_lt (f : Fl) (x : Int) : 0 ≤ getF f x ∧ getF f x < 18446744073709551616 := by
  unfold getF
  cases hr : rightF f
  · simp
  · have h1 := rightF_t hr
    have : Fld.getN f.at_.toNat f.size.toNat x.toNat < 2 ^ f.size.toNat := by unfold Fld.getN; exact Nat.mod_lt _ (Nat.two_pow_pos _)
    have h2 : 2 ^ f.size.toNat ≤ 2 ^ 64 := Nat.pow_le_pow_right (by omega) (by omega)
    simp only [if_true]
    omega

theorem get_num {l : List Fl} {n : List Int} (h0 : ∀ x ∈ n, 0 ≤ x) (hj : joinB l n l.length = true) (h : l.length = n.length) (i : Nat) (hi : i < l.length) : getF l[i] ((wordN l n l.length : Nat) : Int) = n[i]'(by omega) := by
  have h1 := word_get h0 hj (Nat.le_refl _) (by omega) i hi
  have h2 := (joinB_right hj (Nat.le_refl _) (by omega) hi).1
  unfold getF
  rw [h2]
  simpa using h1
end Go.Proofs.Ytpimflmmfnffeaa
