/- Fields as lists. -/
import Derived.Test.YtpimflmmfnffeaaDoorApp
import Derived.Test.YtpimflmmfnffeaaDoorFM2
namespace Go.Proofs.YtpimflmmfnffeaaDoor
open Go.RowKit

def eF (f : Fl) : List Value := [.int .i64 f.at_, .int .i64 f.size]

theorem eF_ok : EncOk eF 2 := ⟨fun _ => rfl, fun x u hu => by simp [eF] at hu; rcases hu with rfl | rfl <;> rfl⟩

theorem Sl.fl_at {w : World} {A : Option Addr} {xs : List Fl} {i : Nat} (h : Sl eF 2 w A xs) (hi : i < xs.length) :
    ∃ b off, A = some ⟨b, off, none⟩ ∧ w.cell? ⟨b, off + i * 2, none⟩ = some (.int .i64 xs[i].at_) ∧ w.cell? ⟨b, off + i * 2 + 1, none⟩ = some (.int .i64 xs[i].size) := by
  obtain ⟨b, off, hA, hc⟩ := h.at_ hi
  exact ⟨b, off, hA, by simpa using hc 0 _ (show (eF xs[i])[0]? = some (.int .i64 xs[i].at_) from rfl), by simpa [Nat.add_assoc] using hc 1 _ (show (eF xs[i])[1]? = some (.int .i64 xs[i].size) from rfl)⟩

theorem mask_at (f : Fl) (w : World) (h : rightF f = true) :
    Calls Tryd.prog 24 #[.agg #[.int .i64 f.at_, .int .i64 f.size]] w fun e w' => e = .returned (.int .u64 (maskN f : Nat)) ∧ Below w.heap.size w w' := by
  have h1 := rightF_t h
  have := mask_yes f.at_ f.size w h1.1 h1.2.1 h1.2.2.1 h1.2.2.2
  rw [mask_int] at this
  exact this

theorem right_at (f : Fl) (w : World) : Calls Tryd.prog 27 #[.agg #[.int .i64 f.at_, .int .i64 f.size]] w fun e w' => e = .returned (.bool (rightF f)) ∧ Below w.heap.size w w' := right_any _ _ _

theorem and_test {x y : Nat} (hx : x < 2 ^ 64) (hy : y < 2 ^ 64) : (bits BinOp.and IntKind.u64 (x : Int) (y : Int) == 0) = decide (x &&& y = 0) := by
  rw [u64_and_nat _ _ (by omega) (by omega), Bool.eq_iff_iff]
  simp
end Go.Proofs.YtpimflmmfnffeaaDoor
