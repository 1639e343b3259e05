/- Walks: the statement's own fraction; the chapter's example. -/
import Derived.Test.YtojglionlcjkjaaW7
namespace Go.Proofs.Ytojglionlcjkjaa
open Go.RowKit

set_option maxHeartbeats 1000000 in
theorem to_any (n d : Nat) (w : World) :
    Calls Try.prog 8 #[.agg #[.int .u64 n, .int .u64 d]] w fun e w' => e = .returned (.agg #[.int .u64 n, .int .u64 d]) ∧ Below w.heap.size w w' := by
  go_enter Try.func8, Try.ntmps8
  go_wp2
  exact bodyPost_ret (v := .agg #[.int .u64 n, .int .u64 d]) (by simp [results, Try.results8, go_sem]) rfl ⟨rfl, (below1 _ _).alloc (by simp) _⟩

set_option maxRecDepth 100000 in
set_option maxHeartbeats 1000000 in
theorem awake_any (w : World) :
    Calls Try.prog 10 #[] w fun e w' => e = .returned (.bool true) ∧ Below w.heap.size w w' := by
  have hS : Hid (∀ W, Sl eR 2 W (some ⟨w.heap.size, 0, none⟩) [⟨1, 2⟩, ⟨1, 3⟩, ⟨1, 6⟩] → Calls Try.prog 11 #[.slice (some ⟨w.heap.size, 0, none⟩) 3 3] W fun e w' => e = .returned (.tuple #[.agg #[.int .u64 1, .int .u64 1], .int .i64 0]) ∧ Below W.heap.size W w') := fun W h => by
    have := sum_any _ _ 3 W h (by simp) (by simp)
    rw [sum_ex] at this
    exact this
  go_enter Try.func10, Try.ntmps10
  go_wp2_with fail
  refine (hS.out _ ?_).mono ?_
  · exact Sl.three (Blk.new _ _ _)
  rintro e w2 ⟨rfl, hb⟩
  replace hb := bstep (below1 _ _) (Nat.le_refl _) hb
  go_wp2
  go_ret
  exact ⟨rfl, hb.alloc hb.size _⟩
end Go.Proofs.Ytojglionlcjkjaa
