/- Walks: which translations may be. -/
import Derived.Test.YtfaddnedlloaiaaM1
import Derived.Test.YtfaddnedlloaiaaBase
namespace Go.Proofs.Ytfaddnedlloaiaa
open Go.RowKit

set_option maxHeartbeats 1000000 in
theorem right_any (e : En) (w : World) : Calls Try.prog 9 #[.agg #[.int .i64 e.env, .int .i64 e.page, .int .i64 e.frame, .bool e.write]] w fun r w' => r = .returned (.bool (rightE e)) ∧ Below w.heap.size w w' := by
  go_enter Try.func9, Try.ntmps9
  go_wp2
  all_goals go_ret
  all_goals refine ⟨ret_bool ?_, below1 _ _⟩
  all_goals unfold rightE
  all_goals first | (simp; done) | (simp; omega) | (rw [decide_eq_decide]; omega)
set_option maxHeartbeats 1000000 in
theorem rRight_any (e : En) (w : World) : Calls Try.prog 5 #[.agg #[.int .i64 e.env, .int .i64 e.page, .int .i64 e.frame, .bool e.write]] w fun r w' => r = .returned (.bool (rightE e)) ∧ Below w.heap.size w w' := by
  go_enter Try.func5, Try.ntmps5
  go_wp2
  all_goals go_ret
  all_goals refine ⟨ret_bool ?_, below1 _ _⟩
  all_goals unfold rightE
  all_goals first | (simp; done) | (simp; omega) | (rw [decide_eq_decide]; omega)
end Go.Proofs.Ytfaddnedlloaiaa
