/- RatioRounds at every fraction and power. -/
import Derived.Test.YtojglionlcjkjaaW16
namespace Go.Proofs.Ytojglionlcjkjaa
open Go.RowKit
theorem rounds_all (n d : Int) (power : Int) (w : World) (h1 : 0 ≤ n ∧ n < 18446744073709551616) (h2 : 0 ≤ d ∧ d < 18446744073709551616) (hp : power < 9223372036854775808) :
    Calls Try.prog 6 #[.agg #[.int .u64 n, .int .u64 d], .int .i64 power] w fun e w' => e = .returned (.bool true) ∧ Below w.heap.size w w' := by
  obtain ⟨a, rfl⟩ := Int.eq_ofNat_of_zero_le h1.1
  obtain ⟨b, rfl⟩ := Int.eq_ofNat_of_zero_le h2.1
  exact rounds_any a b power w (by omega) (by omega) hp
end Go.Proofs.Ytojglionlcjkjaa
