/- Walk: bits.Div64. -/
import Derived.Test.YtojglionlcjkjaaW12
import Derived.Test.YtojglionlcjkjaaW1
import Derived.Deep.DeepCutAuto
import Derived.Deep.CutBlock
namespace Go.Proofs.Ytojglionlcjkjaa
open Go.RowKit

/-- all that is shifted and cut, in one place -/
structure Parts (hi lo y k Y UN U1 U0 V1 V0 : Nat) : Prop where
  y1 : Y = y * 2 ^ k
  y2 : Y = V1 * 4294967296 + V0
  v1 : 4294967296 ≤ 2 * V1
  v2 : V1 < 4294967296
  v3 : V0 < 4294967296
  un : UN < Y
  u1 : U1 < 4294967296
  u0 : U0 < 4294967296
  x : (UN * 4294967296 + U1) * 4294967296 + U0 = (hi * 18446744073709551616 + lo) * 2 ^ k
theorem shift_parts (hi lo y k : Nat) (hk : k ≤ 63) (h1 : hi < y) (h2 : lo < 18446744073709551616) (n4 : y * 2 ^ k < 18446744073709551616) (n3 : 18446744073709551616 ≤ 2 * (y * 2 ^ k)) :
    Parts hi lo y k (y * 2 ^ k) (hi * 2 ^ k + lo / 2 ^ (64 - k)) (lo * 2 ^ k % 18446744073709551616 / 4294967296) (lo * 2 ^ k % 18446744073709551616 % 4294967296) (y * 2 ^ k / 4294967296) (y * 2 ^ k % 4294967296) ∧ lo / 2 ^ (64 - k) < 2 ^ k ∧ hi * 2 ^ k < 18446744073709551616 := by
  have hp : (2 : Nat) ^ 64 = 2 ^ (64 - k) * 2 ^ k := by rw [← Nat.pow_add]; congr 1; omega
  have e64 : (2 : Nat) ^ 64 = 18446744073709551616 := by decide
  rw [e64] at hp
  have hk0 : 0 < 2 ^ k := Nat.pos_of_ne_zero (by simp)
  have hk1 : 0 < 2 ^ (64 - k) := Nat.pos_of_ne_zero (by simp)
  have hd : lo * 2 ^ k / 18446744073709551616 = lo / 2 ^ (64 - k) := by rw [hp, Nat.mul_div_mul_right _ _ hk0]
  have hl : lo / 2 ^ (64 - k) < 2 ^ k := Nat.div_lt_of_lt_mul (by rw [← hp]; exact h2)
  have hh : (hi + 1) * 2 ^ k ≤ y * 2 ^ k := Nat.mul_le_mul_right _ h1
  rw [Nat.add_mul, Nat.one_mul] at hh
  have hx : (hi * 18446744073709551616 + lo) * 2 ^ k = hi * 2 ^ k * 18446744073709551616 + lo * 2 ^ k := by rw [Nat.add_mul]; congr 1; rw [Nat.mul_assoc, Nat.mul_assoc, Nat.mul_comm (2 ^ k)]
  have hdm := Nat.div_add_mod (lo * 2 ^ k) 18446744073709551616
  rw [hd] at hdm
  refine ⟨⟨rfl, ?_, ?_, ?_, ?_, ?_, ?_, ?_, ?_⟩, hl, by omega⟩
  case refine_8 =>
    rw [hx]
    generalize lo * 2 ^ k = a at *
    generalize hi * 2 ^ k = b at *
    generalize lo / 2 ^ (64 - k) = d at *
    omega
  all_goals
    generalize lo * 2 ^ k = a at *
    generalize hi * 2 ^ k = b at *
    generalize y * 2 ^ k = c at *
    generalize lo / 2 ^ (64 - k) = d at *
    omega
theorem or_parts (hi k l : Nat) (hl : l < 2 ^ k) (h : hi * 2 ^ k < 18446744073709551616) (h2 : l < 18446744073709551616) (h3 : hi * 2 ^ k + l < 18446744073709551616) : bits .or .u64 ((hi * 2 ^ k : Nat) : Int) (l : Int) = ((hi * 2 ^ k + l : Nat) : Int) := by
  have e := bits_or_u64_nat (hi * 2 ^ k) l h h2
  rw [e]
  congr 1
  rw [← Nat.shiftLeft_eq, Nat.shiftLeft_add_eq_or_of_lt hl]
end Go.Proofs.Ytojglionlcjkjaa
