/- Plain: division of a number of two words by a word, digit by digit. -/
import Derived.Test.YtojglionlcjkjaaBase
import Derived.Lib.BitFns
namespace Go.Proofs.Ytojglionlcjkjaa

theorem bl_bounds : ∀ (f x : Nat), 0 < x → x < 2 ^ f → 0 < Lib.bitLenAux f x ∧ 2 ^ (Lib.bitLenAux f x) ≤ 2 * x ∧ x < 2 ^ (Lib.bitLenAux f x)
  | 0, x, h0, h => by simp at h; omega
  | f + 1, x, h0, h => by
    unfold Lib.bitLenAux
    rw [if_neg (by omega)]
    by_cases h1 : x / 2 = 0
    · have hx : x = 1 := by omega
      subst hx
      have : Lib.bitLenAux f (1 / 2) = 0 := by
        cases f with
        | zero => rfl
        | succ f => simp [Lib.bitLenAux]
      rw [this]
      simp
    · obtain ⟨a, b, c⟩ := bl_bounds f (x / 2) (by omega) (by rw [Nat.pow_succ] at h; omega)
      refine ⟨by omega, ?_, ?_⟩
      · rw [Nat.add_comm, Nat.pow_succ]; omega
      · rw [Nat.add_comm, Nat.pow_succ]; omega
theorem pow_split {a b : Nat} (h : a ≤ b) : (2 : Nat) ^ b = 2 ^ a * 2 ^ (b - a) := by rw [← Nat.pow_add]; congr 1; omega
/-- what is shifted as far as it can is great -/
theorem norm_bounds (y : Nat) (h0 : 0 < y) (h : y < 18446744073709551616) : Lib.bitLen y ≤ 64 ∧ 1 ≤ Lib.bitLen y ∧ 18446744073709551616 ≤ 2 * (y * 2 ^ (64 - Lib.bitLen y)) ∧ y * 2 ^ (64 - Lib.bitLen y) < 18446744073709551616 := by
  have hl := Lib.bitLen_le y 64 (by omega) (by simpa using h)
  obtain ⟨a, b, c⟩ := bl_bounds 64 y h0 (by simpa using h)
  change 0 < Lib.bitLen y at a
  change 2 ^ Lib.bitLen y ≤ _ at b
  change y < 2 ^ Lib.bitLen y at c
  have hp := pow_split hl
  have hq : 0 < 2 ^ (64 - Lib.bitLen y) := Nat.pos_of_ne_zero (by simp)
  generalize Lib.bitLen y = k at *
  generalize (2 : Nat) ^ (64 - k) = p at *
  generalize (2 : Nat) ^ k = q at *
  have e : (2 : Nat) ^ 64 = 18446744073709551616 := by decide
  rw [e] at hp
  refine ⟨hl, a, ?_, ?_⟩
  · have := Nat.mul_le_mul_right p b
    rw [hp, Nat.mul_assoc] at *
    omega
  · rw [hp]
    exact Nat.mul_lt_mul_of_pos_right c hq

/-- one digit: what the loop holds -/
structure Dig (u u1 v1 v0 q r : Nat) : Prop where
  e : q * v1 + r = u
  hi : u * 4294967296 + u1 < (q + 1) * (v1 * 4294967296 + v0)
  le : q ≤ 4294967297
section
variable {u u1 v1 v0 q r : Nat}
theorem mul_parts (q v1 v0 : Nat) : q * (v1 * 4294967296 + v0) = q * v1 * 4294967296 + q * v0 := by rw [Nat.mul_add, Nat.mul_assoc]
theorem dig_init (hv : 4294967296 ≤ 2 * v1) (hv0 : v0 < 4294967296) (hu : u < v1 * 4294967296 + v0) (hu1 : u1 < 4294967296) : Dig u u1 v1 v0 (u / v1) (u % v1) := by
  have h1 := Nat.div_add_mod u v1
  have h2 := Nat.mod_lt u (show 0 < v1 by omega)
  rw [Nat.mul_comm] at h1
  refine ⟨h1, ?_, ?_⟩
  · rw [Nat.add_mul, mul_parts]
    generalize u / v1 * v1 = P at *
    generalize u / v1 * v0 = R at *
    omega
  · refine Nat.le_of_not_lt fun hq => ?_
    have := Nat.mul_le_mul_right v1 (show 4294967298 ≤ u / v1 by omega)
    generalize u / v1 * v1 = P at *
    omega
/-- the guard: the digit is too great -/
theorem dig_step (h : Dig u u1 v1 v0 q r) (hu : u < v1 * 4294967296 + v0) (hu1 : u1 < 4294967296) (hg : 4294967296 ≤ q ∨ 4294967296 * r + u1 < q * v0) : 1 ≤ q ∧ Dig u u1 v1 v0 (q - 1) (r + v1) := by
  obtain ⟨e, hi, le⟩ := h
  have hq : 1 ≤ q := by
    rcases hg with hg | hg
    · omega
    · cases q with
      | zero => simp at hg
      | succ q => omega
  obtain ⟨p, rfl⟩ : ∃ p, q = p + 1 := ⟨q - 1, by omega⟩
  refine ⟨hq, by rw [← e, Nat.add_sub_cancel, Nat.add_mul]; omega, ?_, by omega⟩
  rw [Nat.add_sub_cancel, mul_parts]
  rcases hg with hg | hg
  · have h3 := Nat.mul_le_mul_right (v1 * 4294967296 + v0) hg
    rw [mul_parts (p + 1)] at h3
    generalize (p + 1) * v1 = P at *
    generalize (p + 1) * v0 = R at *
    omega
  · generalize (p + 1) * v1 = P at *
    generalize (p + 1) * v0 = R at *
    omega
theorem dig_end (h : Dig u u1 v1 v0 q r) (hg : q * v0 ≤ 4294967296 * r + u1) : q * (v1 * 4294967296 + v0) ≤ u * 4294967296 + u1 ∧ u * 4294967296 + u1 < (q + 1) * (v1 * 4294967296 + v0) := by
  obtain ⟨e, hi, le⟩ := h
  refine ⟨?_, hi⟩
  rw [mul_parts]
  generalize q * v1 = P at *
  generalize q * v0 = R at *
  omega
theorem dig_break (h : Dig u u1 v1 v0 q r) (hq : q ≤ 4294967296) (hv0 : v0 < 4294967296) (hr : 4294967296 ≤ r) : q * v0 ≤ 4294967296 * r + u1 := by
  have := Nat.mul_le_mul_right v0 hq
  omega
theorem div_of {n y q : Nat} (h1 : q * y ≤ n) (h2 : n < (q + 1) * y) : n / y = q ∧ n % y = n - q * y := by
  have hy : 0 < y := by
    cases y with
    | zero => simp at h2
    | succ y => omega
  have e : n / y = q := Nat.div_eq_of_lt_le h1 h2
  refine ⟨e, ?_⟩
  have := Nat.div_add_mod n y
  rw [e, Nat.mul_comm] at this
  omega
end
/-- two digits in a row are the quotient -/
theorem two_digits (N un0 y : Nat) (hy : 0 < y) :
    (N * 4294967296 + un0) / y = N / y * 4294967296 + ((N % y) * 4294967296 + un0) / y ∧ (N * 4294967296 + un0) % y = ((N % y) * 4294967296 + un0) % y := by
  have h := Nat.div_add_mod N y
  have e : N * 4294967296 + un0 = (N % y * 4294967296 + un0) + y * (N / y * 4294967296) := by
    rw [← Nat.mul_assoc]
    generalize y * (N / y) = a at *
    generalize N % y = b at *
    omega
  rw [e, Nat.add_mul_div_left _ _ hy, Nat.add_mul_mod_self_left]
  refine ⟨?_, rfl⟩
  have e2 : (N % y * 4294967296 + un0 + y * (N / y * 4294967296)) = N * 4294967296 + un0 := e.symm
  exact Nat.add_comm _ _
theorem div_scaled (x y p : Nat) (hp : 0 < p) : x * p / (y * p) = x / y ∧ x * p % (y * p) = x % y * p := ⟨Nat.mul_div_mul_right x y hp, Nat.mul_mod_mul_right p x y⟩
end Go.Proofs.Ytojglionlcjkjaa
