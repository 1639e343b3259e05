/- Walks: which calls may be. -/
import Derived.Test.YtjojnfnjekjjnaaDoorFW6
import Derived.Test.YtjojnfnjekjjnaaDoorAft
namespace Go.Proofs.YtjojnfnjekjjnaaDoor
open Go.RowKit

/-- has operation op the number i? -/
def hasI (op : Int) (i : Nat) : Bool :=
  match i with
  | 0 => op == 1 || op == 2 || op == 6 || op == 9 || op == 10 || op == 11 || op == 12 || op == 14 || op == 3 || op == 13 || op == 17 || op == 4 || op == 5 || op == 7 || op == 8
  | 1 => op == 3 || op == 13 || op == 17 || op == 4 || op == 5 || op == 7 || op == 8
  | 2 => op == 4 || op == 5 || op == 7 || op == 8 || op == 15
  | _ => op == 8 || op == 15
def numOk (n : Int) (had : Bool) (most : Int) : Bool := if had then decide (0 ≤ n ∧ n ≤ most) else n == 0
def rightC (op a b c d : Int) : Bool := decide (0 ≤ op ∧ op ≤ 19) && numOk a (hasI op 0) 255 && numOk b (hasI op 1) 255 && numOk c (hasI op 2) 1048575 && numOk d (hasI op 3) 1048575

theorem number_any (n : Int) (had : Bool) (most : Int) (w : World) : Calls Tryd.prog 16 #[.int .i64 n, .bool had, .int .i64 most] w fun e w' => e = .returned (.bool (numOk n had most)) ∧ w = w' := by
  cases had
  · go_enter Tryd.func16, Tryd.ntmps16
    go_wp2
    go_ret
    exact ⟨rfl, rfl⟩
  · go_enter Tryd.func16, Tryd.ntmps16
    go_wp2
    all_goals go_ret
    all_goals refine ⟨ret_bool ?_, rfl⟩
    all_goals unfold numOk
    all_goals simp
    all_goals omega

theorem has_any (op : Int) (w : World) (h0 : 0 ≤ op) (h1 : op ≤ 19) : Calls Tryd.prog 15 #[.int .i64 op] w fun e w' => e = .returned (.tuple #[.bool (hasI op 0), .bool (hasI op 1), .bool (hasI op 2), .bool (hasI op 3)]) ∧ w = w' := by
  obtain ⟨n, rfl⟩ := Int.eq_ofNat_of_zero_le h0
  have hn : n ≤ 19 := by omega
  clear h0 h1
  rcases (show n = 0 ∨ n = 1 ∨ n = 2 ∨ n = 3 ∨ n = 4 ∨ n = 5 ∨ n = 6 ∨ n = 7 ∨ n = 8 ∨ n = 9 ∨ n = 10 ∨ n = 11 ∨ n = 12 ∨ n = 13 ∨ n = 14 ∨ n = 15 ∨ n = 16 ∨ n = 17 ∨ n = 18 ∨ n = 19 by omega) with rfl | rfl | rfl | rfl | rfl | rfl | rfl | rfl | rfl | rfl | rfl | rfl | rfl | rfl | rfl | rfl | rfl | rfl | rfl | rfl
  all_goals
    clear hn
    go_enter Tryd.func15, Tryd.ntmps15
    go_wp2
    exact bodyPost_ret (v := .tuple #[.bool _, .bool _, .bool _, .bool _]) (by simp [results, Tryd.results15, go_sem]; exact ⟨rfl, rfl, rfl, rfl⟩) rfl ⟨rfl, rfl⟩

set_option maxHeartbeats 1000000 in
theorem right_call (op a b c d : Int) (w : World) : Calls Tryd.prog 6 #[.agg #[.int .i64 op, .int .i64 a, .int .i64 b, .int .i64 c, .int .i64 d]] w fun e w' => e = .returned (.bool (rightC op a b c d)) ∧ Below w.heap.size w w' := by
  by_cases h0 : 0 ≤ op ∧ op ≤ 19
  · obtain ⟨h0, h1⟩ := h0
    have hh := Lib.hid (fun W => has_any op W h0 h1)
    have hr : rightC op a b c d = (numOk a (hasI op 0) 255 && numOk b (hasI op 1) 255 && numOk c (hasI op 2) 1048575 && numOk d (hasI op 3) 1048575) := by unfold rightC; simp [h0, h1]
    rw [hr]
    clear hr
    have e0 := Lib.hid (fun W => number_any a (hasI op 0) 255 W)
    have e1 := Lib.hid (fun W => number_any b (hasI op 1) 255 W)
    have e2 := Lib.hid (fun W => number_any c (hasI op 2) 1048575 W)
    have e3 := Lib.hid (fun W => number_any d (hasI op 3) 1048575 W)
    generalize numOk a (hasI op 0) 255 = q0 at *
    generalize numOk b (hasI op 1) 255 = q1 at *
    generalize numOk c (hasI op 2) 1048575 = q2 at *
    generalize numOk d (hasI op 3) 1048575 = q3 at *
    generalize hasI op 0 = p0 at *
    generalize hasI op 1 = p1 at *
    generalize hasI op 2 = p2 at *
    generalize hasI op 3 = p3 at *
    cases q0 <;> cases q1 <;> cases q2
    all_goals
      go_enter Tryd.func6, Tryd.ntmps6
      go_wp2_with (first | (go_at_call 15; (with_reducible refine (hh.out _).mono ?_); rintro e w2 ⟨rfl, rfl⟩) | (go_at_call 16; (first | (with_reducible refine (e0.out _).mono ?_) | (with_reducible refine (e1.out _).mono ?_) | (with_reducible refine (e2.out _).mono ?_) | (with_reducible refine (e3.out _).mono ?_)); rintro e w2 ⟨rfl, rfl⟩))
      go_ret
      exact ⟨by simp, below1 _ _⟩
  · have hr : rightC op a b c d = false := by unfold rightC; simp [h0]
    rw [hr]
    clear hr
    by_cases h1 : op < 0
    · go_enter Tryd.func6, Tryd.ntmps6
      go_wp2
      go_ret
      exact ⟨rfl, below1 _ _⟩
    · have h2 : 19 < op := by omega
      clear h0
      go_enter Tryd.func6, Tryd.ntmps6
      go_wp2
      go_ret
      exact ⟨rfl, below1 _ _⟩
end Go.Proofs.YtjojnfnjekjjnaaDoor
