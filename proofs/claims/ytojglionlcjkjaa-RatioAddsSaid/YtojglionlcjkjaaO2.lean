/- RatioAdds over naturals, at whole numbers that are words. -/
import Derived.Test.YtojglionlcjkjaaW10
namespace Go.Proofs.Ytojglionlcjkjaa
open Go.RowKit
theorem adds_all (an ad bn bd : Int) (w : World) (h1 : 0 ≤ an ∧ an < 18446744073709551616) (h2 : 0 ≤ ad ∧ ad < 18446744073709551616) (h3 : 0 ≤ bn ∧ bn < 18446744073709551616) (h4 : 0 ≤ bd ∧ bd < 18446744073709551616) :
    Calls Try.prog 3 #[.agg #[.int .u64 an, .int .u64 ad], .agg #[.int .u64 bn, .int .u64 bd]] w fun e w' => e = .returned (.bool true) ∧ Below w.heap.size w w' := by
  obtain ⟨an, rfl⟩ := Int.eq_ofNat_of_zero_le h1.1
  obtain ⟨ad, rfl⟩ := Int.eq_ofNat_of_zero_le h2.1
  obtain ⟨bn, rfl⟩ := Int.eq_ofNat_of_zero_le h3.1
  obtain ⟨bd, rfl⟩ := Int.eq_ofNat_of_zero_le h4.1
  exact adds_any an ad bn bd w (by omega) (by omega) (by omega) (by omega)
end Go.Proofs.Ytojglionlcjkjaa
