/- Plain numbers: parts of a word of 64 bits. -/
import Derived.KernelRfl
namespace Go.Proofs.YtpimflmmfnffeaaDoor.Fld

/-- what stands in s bits from bit a on -/
def getN (a s x : Nat) : Nat := x / 2 ^ a % 2 ^ s
/-- x with n in s bits from bit a on -/
def putN (a s x n : Nat) : Nat := 2 ^ a * (2 ^ s * (x / 2 ^ (a + s)) + n) + x % 2 ^ a

theorem getN_lt (a s x : Nat) : getN a s x < 2 ^ s := Nat.mod_lt _ (Nat.two_pow_pos s)

theorem div_testBit (x k j : Nat) : (x / 2 ^ k).testBit j = x.testBit (k + j) := by
  rw [← Nat.shiftRight_eq_div_pow, Nat.testBit_shiftRight]

theorem testBit_put (a s x n j : Nat) (hn : n < 2 ^ s) :
    (putN a s x n).testBit j = if j < a then x.testBit j else if j < a + s then n.testBit (j - a) else x.testBit j := by
  unfold putN
  rw [Nat.testBit_two_pow_mul_add _ (Nat.mod_lt _ (Nat.two_pow_pos a))]
  by_cases h1 : j < a
  · rw [if_pos h1, if_pos h1, Nat.testBit_mod_two_pow]; simp [h1]
  · rw [if_neg h1, if_neg h1, Nat.testBit_two_pow_mul_add _ hn]
    by_cases h2 : j < a + s
    · rw [if_pos (by omega), if_pos h2]
    · rw [if_neg (by omega), if_neg h2, div_testBit]
      congr 1; omega

theorem get_put (a s x n : Nat) (hn : n < 2 ^ s) : getN a s (putN a s x n) = n := by
  apply Nat.eq_of_testBit_eq
  intro j
  unfold getN
  rw [Nat.testBit_mod_two_pow, div_testBit, testBit_put _ _ _ _ _ hn]
  by_cases h : j < s
  · rw [if_neg (by omega), if_pos (by omega)]; simp [h]
  · simp only [h, decide_false, Bool.false_and]
    exact (Nat.testBit_lt_two_pow (Nat.lt_of_lt_of_le hn (Nat.pow_le_pow_right (by omega) (by omega)))).symm

theorem put_lt (a s x n k : Nat) (hn : n < 2 ^ s) (hk : a + s ≤ k) (hx : x < 2 ^ k) : putN a s x n < 2 ^ k := by
  apply Nat.lt_pow_two_of_testBit
  intro i hi
  rw [testBit_put _ _ _ _ _ hn, if_neg (by omega), if_neg (by omega)]
  exact Nat.testBit_lt_two_pow (Nat.lt_of_lt_of_le hx (Nat.pow_le_pow_right (by omega) hi))

theorem mask_eq (a s : Nat) (h : a + s ≤ 64) : 18446744073709551615 - (2 ^ s - 1) * 2 ^ a = 2 ^ 64 - ((2 ^ s - 1) * 2 ^ a + 1) := by
  omega

theorem mask_lt (a s : Nat) (h : a + s ≤ 64) : (2 ^ s - 1) * 2 ^ a < 2 ^ 64 := by
  have h1 : (2 ^ s - 1) * 2 ^ a < 2 ^ s * 2 ^ a := by
    apply Nat.mul_lt_mul_of_pos_right _ (Nat.two_pow_pos a)
    have := Nat.two_pow_pos s
    omega
  rw [← Nat.pow_add] at h1
  exact Nat.lt_of_lt_of_le h1 (Nat.pow_le_pow_right (by omega) (by omega))

theorem testBit_mask (a s j : Nat) : ((2 ^ s - 1) * 2 ^ a).testBit j = (decide (a ≤ j) && decide (j < a + s)) := by
  rw [Nat.testBit_mul_two_pow, Nat.testBit_two_pow_sub_one]
  by_cases h : a ≤ j <;> simp [h]
  omega

/-- how the program puts -/
theorem put_bits (a s x n : Nat) (h : a + s ≤ 64) (hx : x < 2 ^ 64) (hn : n < 2 ^ s) :
    (x &&& (18446744073709551615 - (2 ^ s - 1) * 2 ^ a)) ||| (n * 2 ^ a) = putN a s x n := by
  apply Nat.eq_of_testBit_eq
  intro j
  rw [testBit_put _ _ _ _ _ hn, mask_eq _ _ h, Nat.testBit_or, Nat.testBit_and, Nat.testBit_two_pow_sub_succ (mask_lt a s h), testBit_mask, Nat.testBit_mul_two_pow]
  by_cases h64 : j < 64
  · by_cases h1 : j < a
    · have : ¬ a ≤ j := by omega
      simp [h1, this, h64]
    · by_cases h2 : j < a + s
      · have : a ≤ j := by omega
        simp [h1, this, h2]
      · have h3 : a ≤ j := by omega
        have h4 : n.testBit (j - a) = false := Nat.testBit_lt_two_pow (Nat.lt_of_lt_of_le hn (Nat.pow_le_pow_right (by omega) (by omega)))
        simp [h1, h3, h2, h64, h4]
  · have h5 : x.testBit j = false := Nat.testBit_lt_two_pow (Nat.lt_of_lt_of_le hx (Nat.pow_le_pow_right (by omega) (by omega)))
    have h1 : ¬ j < a := by omega
    have h2 : ¬ j < a + s := by omega
    have h3 : a ≤ j := by omega
    have h4 : n.testBit (j - a) = false := Nat.testBit_lt_two_pow (Nat.lt_of_lt_of_le hn (Nat.pow_le_pow_right (by omega) (by omega)))
    simp [h1, h2, h3, h4, h5]

/-- how the program gets -/
theorem get_bits (a s x : Nat) : (x / 2 ^ a) &&& (2 ^ s - 1) = getN a s x := by
  rw [Nat.and_two_pow_sub_one_eq_mod]; rfl

/-- a bit, and what is below it -/
theorem mod_succ (x i : Nat) : x % 2 ^ (i + 1) = x % 2 ^ i + (x / 2 ^ i % 2) * 2 ^ i := by
  rw [Nat.pow_succ, Nat.mod_mul]
  rw [Nat.mul_comm (2 ^ i)]

def bitB (x i : Nat) : Bool := x / 2 ^ i % 2 == 1
theorem bitB_test (x i : Nat) : bitB x i = x.testBit i := by
  unfold bitB
  rw [Nat.testBit_eq_decide_div_mod_eq]
  simp [BEq.beq]

theorem get_succ (a x i : Nat) : getN a (i + 1) x = getN a i x + if bitB x (a + i) then 2 ^ i else 0 := by
  unfold getN bitB
  rw [mod_succ, Nat.div_div_eq_div_mul, ← Nat.pow_add]
  have := Nat.mod_two_eq_zero_or_one (x / 2 ^ (a + i))
  rcases this with h | h <;> simp [h]

theorem mod_bit (x i : Nat) : x % 2 ^ (i + 1) = x % 2 ^ i + if x.testBit i then 2 ^ i else 0 := by
  rw [mod_succ, ← bitB_test]
  unfold bitB
  have := Nat.mod_two_eq_zero_or_one (x / 2 ^ i)
  rcases this with h | h <;> simp [h]

theorem most_eq (s : Nat) (h1 : 1 ≤ s) (h2 : s ≤ 64) : 18446744073709551615 / 2 ^ (64 - s) = 2 ^ s - 1 := by
  obtain ⟨k, rfl⟩ : ∃ k, s = 64 - k := ⟨64 - s, by omega⟩
  have hk : k < 64 := by omega
  have e : 64 - (64 - k) = k := by omega
  rw [e]
  have : ∀ k : Fin 64, 18446744073709551615 / 2 ^ k.val = 2 ^ (64 - k.val) - 1 := by decide
  exact this ⟨k, hk⟩

theorem half (n m k : Nat) (h0 : 0 < k) (h : k ≤ m) : n / 2 ^ (m - (k - 1)) = n / 2 ^ (m - k) / 2 := by
  have e : m - (k - 1) = (m - k) + 1 := by omega
  rw [e, Nat.pow_succ, Nat.div_div_eq_div_mul]
theorem dbl (m k : Nat) (h0 : 0 < k) (h : k ≤ m) : 2 ^ (m - (k - 1)) % 18446744073709551616 = (2 ^ (m - k) % 18446744073709551616) * 2 % 18446744073709551616 := by
  have e : m - (k - 1) = (m - k) + 1 := by omega
  rw [e, Nat.pow_succ, Nat.mod_mul_mod]
end Go.Proofs.YtpimflmmfnffeaaDoor.Fld
