/- The statements over naturals, at whole numbers that are words. -/
import Derived.Test.YtojglionlcjkjaaW9
namespace Go.Proofs.Ytojglionlcjkjaa
open Go.RowKit
theorem makes_all (num den an ad bn bd : Int) (w : World) (q1 : 0 ≤ num ∧ num < 18446744073709551616) (q2 : 0 ≤ den ∧ den < 18446744073709551616) (h1 : 0 ≤ an ∧ an < 18446744073709551616) (h2 : 0 ≤ ad ∧ ad < 18446744073709551616) (h3 : 0 ≤ bn ∧ bn < 18446744073709551616) (h4 : 0 ≤ bd ∧ bd < 18446744073709551616) :
    Calls Try.prog 5 #[.int .u64 num, .int .u64 den, .agg #[.int .u64 an, .int .u64 ad], .agg #[.int .u64 bn, .int .u64 bd]] w fun e w' => e = .returned (.bool true) ∧ Below w.heap.size w w' := by
  obtain ⟨num, rfl⟩ := Int.eq_ofNat_of_zero_le q1.1
  obtain ⟨den, rfl⟩ := Int.eq_ofNat_of_zero_le q2.1
  obtain ⟨an, rfl⟩ := Int.eq_ofNat_of_zero_le h1.1
  obtain ⟨ad, rfl⟩ := Int.eq_ofNat_of_zero_le h2.1
  obtain ⟨bn, rfl⟩ := Int.eq_ofNat_of_zero_le h3.1
  obtain ⟨bd, rfl⟩ := Int.eq_ofNat_of_zero_le h4.1
  exact makes_any num den an ad bn bd w (by omega) (by omega) (by omega) (by omega) (by omega) (by omega)
end Go.Proofs.Ytojglionlcjkjaa
