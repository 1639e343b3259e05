/- Walks: names and words of calls. -/
import Derived.Test.YtjojnfnjekjjnaaDoorW6
namespace Go.Proofs.YtjojnfnjekjjnaaDoor
open Go.RowKit

theorem to_any (n0 n1 n2 n3 n4 : Int) (w : World) : Calls Tryd.prog 4 #[.agg #[.int .i64 n0, .int .i64 n1, .int .i64 n2, .int .i64 n3, .int .i64 n4]] w fun e w' => e = .returned (.agg #[.int .i64 n0, .int .i64 n1, .int .i64 n2, .int .i64 n3, .int .i64 n4]) ∧ Below w.heap.size w w' := by
  go_enter Tryd.func4, Tryd.ntmps4
  go_wp2
  exact bodyPost_ret (v := .agg #[.int .i64 n0, .int .i64 n1, .int .i64 n2, .int .i64 n3, .int .i64 n4]) (by simp [results, Tryd.results4, go_sem, *]) rfl ⟨rfl, (below1 _ _).alloc (by simp) _⟩
theorem awake_any (w : World) : Calls Tryd.prog 10 #[] w fun e w' => e = .returned (.bool true) ∧ Below w.heap.size w w' := by
  have HW : Hid (∀ W : World, Calls Tryd.prog 5 #[.agg #[.int .i64 2, .int .i64 3, .int .i64 0, .int .i64 0, .int .i64 0]] W fun e w' => e = .returned (.tuple #[.int .u64 770, .int .i64 0]) ∧ Below W.heap.size W w') := fun W => word_yes 2 3 0 0 0 W (by decide +kernel)
  go_enter Tryd.func10, Tryd.ntmps10
  go_wp2_with fail
  refine (HW.out _).mono ?_
  rintro e w2 ⟨rfl, hb⟩
  go_wp2
  go_ret
  exact ⟨rfl, hb⟩
theorem name_yes (n : Nat) (w : World) (h : n ≤ 19) (c : w.cell? ⟨0, n, none⟩ = some (.string (nameS n))) : Calls Tryd.prog 8 #[.int .i64 n] w fun e w' => e = .returned (.string (nameS n)) ∧ w = w' := by
  have k0 : (0 : Int) ≤ (n : Int) := by omega
  have k1 : (n : Int) < 20 := by omega
  go_enter Tryd.func8, Tryd.ntmps8
  go_wp2
  go_ret
  exact ⟨rfl, rfl⟩
theorem name_no (op : Int) (w : World) (h : ¬ (0 ≤ op ∧ op ≤ 19)) : Calls Tryd.prog 8 #[.int .i64 op] w fun e w' => e = .returned (.string ⟨#[]⟩) ∧ w = w' := by
  by_cases h1 : op < 0
  · go_enter Tryd.func8, Tryd.ntmps8
    go_wp2
    go_ret
    exact ⟨rfl, rfl⟩
  · have h2 : 19 < op := by omega
    clear h
    go_enter Tryd.func8, Tryd.ntmps8
    go_wp2
    go_ret
    exact ⟨rfl, rfl⟩
theorem refWord_yes (n0 n1 n2 n3 n4 : Nat) (w : World) (h0 : n0 ≤ 19) (h1 : n1 ≤ 255) (h2 : n2 ≤ 255) (h3 : n3 ≤ 1048575) (h4 : n4 ≤ 1048575) : Calls Tryd.prog 12 #[.agg #[.int .i64 n0, .int .i64 n1, .int .i64 n2, .int .i64 n3, .int .i64 n4]] w fun e w' => e = .returned (.int .u64 (wordI n0 n1 n2 n3 n4)) ∧ Below w.heap.size w w' := by
  have u0 : IntKind.u64.wrap (n0 : Int) = n0 := by rw [IntKind.wrap_u64]; omega
  have u1 : IntKind.u64.wrap (n1 : Int) = n1 := by rw [IntKind.wrap_u64]; omega
  have u2 : IntKind.u64.wrap (n2 : Int) = n2 := by rw [IntKind.wrap_u64]; omega
  have u3 : IntKind.u64.wrap (n3 : Int) = n3 := by rw [IntKind.wrap_u64]; omega
  have u4 : IntKind.u64.wrap (n4 : Int) = n4 := by rw [IntKind.wrap_u64]; omega
  go_enter Tryd.func12, Tryd.ntmps12
  go_wp2
  go_ret
  refine ⟨ret_int ?_, below1 _ _⟩
  unfold wordI
  omega
end Go.Proofs.YtjojnfnjekjjnaaDoor
