/- Walks: which instructions may be. -/
import Derived.Test.YtpimflmmfnffeaaDoorFW6
import Derived.Test.YtpimflmmfnffeaaDoorAft
namespace Go.Proofs.YtpimflmmfnffeaaDoor
open Go.RowKit

/-- has instruction op the part i (A, B, C, N)? -/
def hasI (op : Int) (i : Nat) : Bool :=
  match i with
  | 0 => !(op == 0 || op == 14)
  | 1 => !(op == 0 || op == 14 || op == 16 || op == 18 || op == 1 || op == 15 || op == 17)
  | 2 => !(op == 0 || op == 14 || op == 16 || op == 18 || op == 1 || op == 15 || op == 17 || op == 12 || op == 13)
  | _ => op == 14 || op == 1 || op == 15 || op == 17 || op == 12 || op == 13
def regOk (n : Int) (had : Bool) : Bool := if had then decide (0 ≤ n ∧ n ≤ 7) else n == 0
def mostK : Int := 17592186044415
def numOk (n : Int) (had : Bool) : Bool := if had then decide (n ≤ mostK) else n == 0
def rightI (op a b c n : Int) : Bool := decide (0 ≤ op ∧ op ≤ 18) && regOk a (hasI op 0) && regOk b (hasI op 1) && regOk c (hasI op 2) && numOk n (hasI op 3)

theorem register_any (n : Int) (had : Bool) (w : World) : Calls Tryd.prog 18 #[.int .i64 n, .bool had] w fun e w' => e = .returned (.bool (regOk n had)) ∧ w = w' := by
  cases had
  · go_enter Tryd.func18, Tryd.ntmps18
    go_wp2
    go_ret
    exact ⟨rfl, rfl⟩
  · go_enter Tryd.func18, Tryd.ntmps18
    go_wp2
    all_goals go_ret
    all_goals refine ⟨ret_bool ?_, rfl⟩
    all_goals unfold regOk
    all_goals simp
    all_goals omega
theorem has_any (op : Int) (w : World) (h0 : 0 ≤ op) (h1 : op ≤ 18) : Calls Tryd.prog 17 #[.int .i64 op] w fun e w' => e = .returned (.tuple #[.bool (hasI op 0), .bool (hasI op 1), .bool (hasI op 2), .bool (hasI op 3)]) ∧ w = w' := by
  obtain ⟨n, rfl⟩ := Int.eq_ofNat_of_zero_le h0
  have hn : n ≤ 18 := by omega
  clear h0 h1
  rcases (show n = 0 ∨ n = 1 ∨ n = 2 ∨ n = 3 ∨ n = 4 ∨ n = 5 ∨ n = 6 ∨ n = 7 ∨ n = 8 ∨ n = 9 ∨ n = 10 ∨ n = 11 ∨ n = 12 ∨ n = 13 ∨ n = 14 ∨ n = 15 ∨ n = 16 ∨ n = 17 ∨ n = 18 by omega) with rfl | rfl | rfl | rfl | rfl | rfl | rfl | rfl | rfl | rfl | rfl | rfl | rfl | rfl | rfl | rfl | rfl | rfl | rfl
  all_goals
    clear hn
    go_enter Tryd.func17, Tryd.ntmps17
    go_wp2
    exact bodyPost_ret (v := .tuple #[.bool _, .bool _, .bool _, .bool _]) (by simp [results, Tryd.results17, go_sem]; exact ⟨rfl, rfl, rfl, rfl⟩) rfl ⟨rfl, rfl⟩

set_option maxHeartbeats 2000000 in
theorem right_inst (op a b c n : Int) (w : World) (hn : 0 ≤ n) : Calls Tryd.prog 8 #[.agg #[.int .i64 op, .int .i64 a, .int .i64 b, .int .i64 c, .int .u64 n]] w fun e w' => e = .returned (.bool (rightI op a b c n)) ∧ Below w.heap.size w w' := by
  by_cases h0 : 0 ≤ op ∧ op ≤ 18
  · obtain ⟨h0, h1⟩ := h0
    have hh := Lib.hid (fun W => has_any op W h0 h1)
    have hr : rightI op a b c n = (regOk a (hasI op 0) && regOk b (hasI op 1) && regOk c (hasI op 2) && numOk n (hasI op 3)) := by unfold rightI; simp [h0, h1]
    rw [hr]
    clear hr
    have e0 := Lib.hid (fun W => register_any a (hasI op 0) W)
    have e1 := Lib.hid (fun W => register_any b (hasI op 1) W)
    have e2 := Lib.hid (fun W => register_any c (hasI op 2) W)
    generalize regOk a (hasI op 0) = q0 at *
    generalize regOk b (hasI op 1) = q1 at *
    generalize regOk c (hasI op 2) = q2 at *
    generalize hasI op 0 = p0 at *
    generalize hasI op 1 = p1 at *
    generalize hasI op 2 = p2 at *
    cases p3 : hasI op 3
    · rw [p3] at hh
      clear p3
      by_cases hz : n = 0
      · subst hz
        have HN : Hid (numOk 0 false = true) := rfl
        cases q0 <;> cases q1 <;> cases q2
        all_goals
          go_enter Tryd.func8, Tryd.ntmps8
          go_wp2_with (first | (go_at_call 17; (with_reducible refine (hh.out _).mono ?_); rintro e w2 ⟨rfl, rfl⟩) | (go_at_call 18; (first | (with_reducible refine (e0.out _).mono ?_) | (with_reducible refine (e1.out _).mono ?_) | (with_reducible refine (e2.out _).mono ?_)); rintro e w2 ⟨rfl, rfl⟩))
          go_ret
          exact ⟨by rw [HN.out]; first | (simp; done) | (simp; omega), below1 _ _⟩
      · have hb : (n != 0) = true := by simp [hz]
        have HN : Hid (numOk n false = false) := by unfold Hid numOk; simp [hz]
        clear hz
        go_enter Tryd.func8, Tryd.ntmps8
        go_wp2_with (first | (go_at_call 17; (with_reducible refine (hh.out _).mono ?_); rintro e w2 ⟨rfl, rfl⟩))
        go_ret
        exact ⟨by rw [HN.out]; first | (simp; done) | (simp; omega), below1 _ _⟩
    · rw [p3] at hh
      clear p3
      by_cases hz : n ≤ 17592186044415
      · have HN : Hid (numOk n true = true) := by unfold Hid numOk mostK; simp [hz]
        cases q0 <;> cases q1 <;> cases q2
        all_goals
          go_enter Tryd.func8, Tryd.ntmps8
          go_wp2_with (first | (go_at_call 17; (with_reducible refine (hh.out _).mono ?_); rintro e w2 ⟨rfl, rfl⟩) | (go_at_call 18; (first | (with_reducible refine (e0.out _).mono ?_) | (with_reducible refine (e1.out _).mono ?_) | (with_reducible refine (e2.out _).mono ?_)); rintro e w2 ⟨rfl, rfl⟩))
          go_ret
          exact ⟨by rw [HN.out]; first | (simp; done) | (simp; omega), below1 _ _⟩
      · have HN : Hid (numOk n true = false) := by
          unfold Hid numOk mostK
          exact decide_eq_false hz
        cases q0 <;> cases q1 <;> cases q2
        all_goals
          go_enter Tryd.func8, Tryd.ntmps8
          go_wp2_with (first | (go_at_call 17; (with_reducible refine (hh.out _).mono ?_); rintro e w2 ⟨rfl, rfl⟩) | (go_at_call 18; (first | (with_reducible refine (e0.out _).mono ?_) | (with_reducible refine (e1.out _).mono ?_) | (with_reducible refine (e2.out _).mono ?_)); rintro e w2 ⟨rfl, rfl⟩))
          go_ret
          exact ⟨by rw [HN.out]; first | (simp; done) | (simp; omega), below1 _ _⟩
  · have hr : rightI op a b c n = false := by unfold rightI; simp [h0]
    rw [hr]
    clear hr
    by_cases h1 : op < 0
    · go_enter Tryd.func8, Tryd.ntmps8
      go_wp2
      go_ret
      exact ⟨rfl, below1 _ _⟩
    · have h2 : 18 < op := by omega
      clear h0
      go_enter Tryd.func8, Tryd.ntmps8
      go_wp2
      go_ret
      exact ⟨rfl, below1 _ _⟩
end Go.Proofs.YtpimflmmfnffeaaDoor
