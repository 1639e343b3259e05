/- Words for jobs in memory. -/
import Derived.Test.YtkhbnklaglnfdaaMem
import Derived.Test.YtkhbnklaglnfdaaEP
namespace Go.Proofs.Ytkhbnklaglnfdaa.Edf
open Go.RowKit

def eJ (j : Job) : List Value := [.int .i64 j.come, .int .i64 j.dead, .int .i64 j.cost]
theorem eJ_len (j : Job) : (eJ j).length = 3 := rfl
theorem _root_.Go.Proofs.Ytkhbnklaglnfdaa.Sl.job_at {w : World} {A : Option Addr} {xs : List Job} {i : Nat} (h : Sl eJ 3 w A xs) (hi : i < xs.length) :
    ∃ b off, A = some ⟨b, off, none⟩ ∧ w.cell? ⟨b, off + i * 3, none⟩ = some (.int .i64 xs[i].come) ∧ w.cell? ⟨b, off + i * 3 + 1, none⟩ = some (.int .i64 xs[i].dead) ∧ w.cell? ⟨b, off + i * 3 + 2, none⟩ = some (.int .i64 xs[i].cost) := by
  obtain ⟨b, off, hA, hc⟩ := h.at_ hi
  exact ⟨b, off, hA, by simpa using hc 0 _ (show (eJ xs[i])[0]? = some (.int .i64 xs[i].come) from rfl), by simpa [Nat.add_assoc] using hc 1 _ (show (eJ xs[i])[1]? = some (.int .i64 xs[i].dead) from rfl), by simpa [Nat.add_assoc] using hc 2 _ (show (eJ xs[i])[2]? = some (.int .i64 xs[i].cost) from rfl)⟩
theorem info_int : (Try.prog.info? 3).map (fun i => (i.zero, i.size, i.bytes)) = some (some (.int .i64 0), 1, 8) := by kernel_rfl
end Go.Proofs.Ytkhbnklaglnfdaa.Edf
