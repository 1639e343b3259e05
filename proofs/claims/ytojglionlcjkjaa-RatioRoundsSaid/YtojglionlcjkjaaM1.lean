/- Plain: the greatest common divisor by steps; fractions and their sum. -/
import Derived.Test.YtojglionlcjkjaaBase
import Derived.Lib.Mul64
namespace Go.Proofs.Ytojglionlcjkjaa

theorem gcd_step (a b : Nat) : Nat.gcd b (a % b) = Nat.gcd a b := by
  rw [Nat.gcd_comm b (a % b), ← Nat.gcd_rec b a, Nat.gcd_comm]

/-- how far the document's loop has come -/
def Near (k a b : Nat) : Prop := k = 0 ∨ (b ≤ a ∧ a * b * 2 ^ k < 2 ^ 130)
theorem near_step {k a b : Nat} (ha : a < 2 ^ 64) (hb : b < 2 ^ 64) (h0 : 0 < b) (h : Near k a b) : Near (k + 1) b (a % b) := by
  right
  have hm : a % b < b := Nat.mod_lt _ h0
  refine ⟨Nat.le_of_lt hm, ?_⟩
  rcases h with h | ⟨h1, h2⟩
  · subst h
    have : b * (a % b) < 2 ^ 64 * 2 ^ 64 := Nat.mul_lt_mul_of_lt_of_le hb (Nat.le_of_lt (Nat.lt_trans hm hb)) (by omega)
    omega
  · have h3 : 2 * (a % b) ≤ a := by
      have := Nat.div_add_mod a b
      have h4 : 1 ≤ a / b := (Nat.one_le_div_iff h0).2 h1
      have h5 : b * 1 ≤ b * (a / b) := Nat.mul_le_mul_left _ h4
      omega
    have h6 : b * (a % b) * 2 ^ (k + 1) = b * (2 * (a % b)) * 2 ^ k := by
      rw [Nat.pow_succ, Nat.mul_comm (2 ^ k) 2, ← Nat.mul_assoc, Nat.mul_assoc b (a % b) 2, Nat.mul_comm (a % b) 2]
    rw [h6]
    refine Nat.lt_of_le_of_lt (Nat.mul_le_mul_right _ (Nat.mul_le_mul_left _ h3)) ?_
    rw [Nat.mul_comm b a]
    exact h2
theorem near_end {a b : Nat} (h : Near 200 a b) : b = 0 := by
  rcases h with h | ⟨h1, h2⟩
  · omega
  · rcases Nat.eq_zero_or_pos b with h0 | h0
    · exact h0
    · exfalso
      have h3 : 1 ≤ a * b := Nat.mul_pos (by omega) h0
      have h4 : 1 * 2 ^ 200 ≤ a * b * 2 ^ 200 := Nat.mul_le_mul_right _ h3
      have h5 : (2 : Nat) ^ 130 < 1 * 2 ^ 200 := by decide
      omega

/-! fractions -/
def rightR (n d : Nat) : Bool := decide (0 < d ∧ Nat.gcd n d = 1)
theorem rightR_t {n d : Nat} (h : rightR n d = true) : 0 < d ∧ Nat.gcd n d = 1 := of_decide_eq_true h
theorem rightR_f0 {n d : Nat} (h : ¬ 0 < d) : rightR n d = false := decide_eq_false fun h' => h h'.1
theorem rightR_g {n d : Nat} (h : 0 < d) : rightR n d = (Nat.gcd n d == 1) := by unfold rightR; rw [Bool.eq_iff_iff]; simp [h]

structure Rat3 where
  num : Nat
  den : Nat
  err : Nat
def makeR (n d : Nat) : Rat3 := ⟨n / Nat.gcd n d, d / Nat.gcd n d, 0⟩
/-- the sum of two fractions, or an error -/
def addR (an ad bn bd : Nat) : Rat3 :=
  if rightR an ad && rightR bn bd then
    if an * (bd / Nat.gcd ad bd) < 2 ^ 64 ∧ bn * (ad / Nat.gcd ad bd) < 2 ^ 64 ∧ an * (bd / Nat.gcd ad bd) + bn * (ad / Nat.gcd ad bd) < 2 ^ 64 ∧ ad / Nat.gcd ad bd * bd < 2 ^ 64 then
      makeR (an * (bd / Nat.gcd ad bd) + bn * (ad / Nat.gcd ad bd)) (ad / Nat.gcd ad bd * bd)
    else ⟨0, 0, 24⟩
  else ⟨0, 0, 1⟩
def r3V (r : Rat3) : Value := .tuple #[.agg #[.int .u64 (r.num : Int), .int .u64 (r.den : Int)], .int .i64 (r.err : Int)]

theorem addR_bad {an ad bn bd : Nat} (h : rightR an ad = false ∨ rightR bn bd = false) : addR an ad bn bd = ⟨0, 0, 1⟩ := by
  unfold addR
  rcases h with h | h <;> simp [h]
theorem addR_ok {an ad bn bd : Nat} (h : rightR an ad = true) (h' : rightR bn bd = true) : addR an ad bn bd =
    if an * (bd / Nat.gcd ad bd) < 2 ^ 64 ∧ bn * (ad / Nat.gcd ad bd) < 2 ^ 64 ∧ an * (bd / Nat.gcd ad bd) + bn * (ad / Nat.gcd ad bd) < 2 ^ 64 ∧ ad / Nat.gcd ad bd * bd < 2 ^ 64 then
      makeR (an * (bd / Nat.gcd ad bd) + bn * (ad / Nat.gcd ad bd)) (ad / Nat.gcd ad bd * bd)
    else ⟨0, 0, 24⟩ := by
  unfold addR
  rw [h, h']; rfl
end Go.Proofs.Ytojglionlcjkjaa
