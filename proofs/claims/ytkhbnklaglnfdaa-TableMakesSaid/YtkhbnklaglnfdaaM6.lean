/- Plain: the rounds of a set, as the document reckons them. -/
import Derived.Test.YtkhbnklaglnfdaaM5
namespace Go.Proofs.Ytkhbnklaglnfdaa

theorem lcm_way (m p : Nat) : m / Nat.gcd m p * p = m * (p / Nat.gcd m p) := by
  rw [Nat.div_mul_right_comm (Nat.gcd_dvd_left m p), Nat.mul_div_assoc _ (Nat.gcd_dvd_right m p)]
theorem hyp_dvd {l : List Tk} {most : Nat} : ∀ {k n : Nat}, hypM l most k = some n → ∀ i, i < k → pN l i ∣ n
  | 0, n, _, i, hi => absurd hi (Nat.not_lt_zero _)
  | k + 1, n, h, i, hi => by
    rw [hypM] at h
    cases hm : hypM l most k with
    | none => rw [hm] at h; cases h
    | some j =>
      rw [hm] at h
      simp only at h
      split at h
      · cases h
      · injection h with h
        subst h
        by_cases he : i = k
        · subst he
          rw [← lcm_way]
          exact Nat.dvd_mul_left _ _
        · exact Nat.dvd_trans (hyp_dvd hm i (by omega)) (Nat.dvd_mul_right _ _)
theorem rnd_of {l : List Tk} {most n : Nat} (hl : ∀ t ∈ l, rightT t = true) (h : hypM l most l.length = some n) : Rnd l n := ⟨hl, fun i hi => Nat.mod_eq_zero_of_dvd (hyp_dvd h i hi)⟩
/-- one step of the document's: the round so far, or none -/
def stepH (most m p : Nat) : Option Nat := if most < m / Nat.gcd m p * p then none else some (m / Nat.gcd m p * p)
theorem hyp_step {l : List Tk} {most k m : Nat} (h : hypM l most k = some m) : hypM l most (k + 1) = stepH most m (pN l k) := by
  rw [hypM, h]
  unfold stepH
  rw [lcm_way]
  rfl
end Go.Proofs.Ytkhbnklaglnfdaa
