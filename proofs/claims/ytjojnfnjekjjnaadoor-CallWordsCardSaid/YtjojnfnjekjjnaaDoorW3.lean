/- Walks: letters. -/
import Derived.Test.YtjojnfnjekjjnaaDoorW2
namespace Go.Proofs.YtjojnfnjekjjnaaDoor
open Go.RowKit

theorem letter_0_0 (w : World) : Calls Tryd.prog 17 #[.string ⟨#[]⟩, .int .i64 0] w fun e w' => e = .returned (.bool false) ∧ w = w' := by
  go_enter Tryd.func17, Tryd.ntmps17
  go_wp2
  refine wp_loop_rounds 1 ?_
  rw [rounds_succ]
  go_wp2
  go_ret
  exact ⟨rfl, rfl⟩
theorem letter_0_1 (w : World) : Calls Tryd.prog 17 #[.string ⟨#[]⟩, .int .i64 1] w fun e w' => e = .returned (.bool false) ∧ w = w' := by
  go_enter Tryd.func17, Tryd.ntmps17
  go_wp2
  refine wp_loop_rounds 1 ?_
  rw [rounds_succ]
  go_wp2
  go_ret
  exact ⟨rfl, rfl⟩
theorem letter_0_2 (w : World) : Calls Tryd.prog 17 #[.string ⟨#[]⟩, .int .i64 2] w fun e w' => e = .returned (.bool false) ∧ w = w' := by
  go_enter Tryd.func17, Tryd.ntmps17
  go_wp2
  refine wp_loop_rounds 1 ?_
  rw [rounds_succ]
  go_wp2
  go_ret
  exact ⟨rfl, rfl⟩
theorem letter_0_3 (w : World) : Calls Tryd.prog 17 #[.string ⟨#[]⟩, .int .i64 3] w fun e w' => e = .returned (.bool false) ∧ w = w' := by
  go_enter Tryd.func17, Tryd.ntmps17
  go_wp2
  refine wp_loop_rounds 1 ?_
  rw [rounds_succ]
  go_wp2
  go_ret
  exact ⟨rfl, rfl⟩
theorem letter_1_0 (w : World) : Calls Tryd.prog 17 #[.string ⟨#[65]⟩, .int .i64 0] w fun e w' => e = .returned (.bool true) ∧ w = w' := by
  have b0 : ((wrap64 (wrap64 ((⟨#[65]⟩ : ByteArray)[0]'(by decide)).toNat - 65) == 0) = true) := by decide +kernel
  go_enter Tryd.func17, Tryd.ntmps17
  go_wp2
  refine wp_loop_rounds 1 ?_
  rw [rounds_succ]
  go_wp2
  go_ret
  exact ⟨rfl, rfl⟩
theorem letter_1_1 (w : World) : Calls Tryd.prog 17 #[.string ⟨#[65]⟩, .int .i64 1] w fun e w' => e = .returned (.bool false) ∧ w = w' := by
  have b0 : ((wrap64 (wrap64 ((⟨#[65]⟩ : ByteArray)[0]'(by decide)).toNat - 65) == 1) = false) := by decide +kernel
  go_enter Tryd.func17, Tryd.ntmps17
  go_wp2
  refine wp_loop_rounds 2 ?_
  rw [rounds_succ]
  go_wp2
  rw [rounds_succ]
  go_wp2
  go_ret
  exact ⟨rfl, rfl⟩
theorem letter_1_2 (w : World) : Calls Tryd.prog 17 #[.string ⟨#[65]⟩, .int .i64 2] w fun e w' => e = .returned (.bool false) ∧ w = w' := by
  have b0 : ((wrap64 (wrap64 ((⟨#[65]⟩ : ByteArray)[0]'(by decide)).toNat - 65) == 2) = false) := by decide +kernel
  go_enter Tryd.func17, Tryd.ntmps17
  go_wp2
  refine wp_loop_rounds 2 ?_
  rw [rounds_succ]
  go_wp2
  rw [rounds_succ]
  go_wp2
  go_ret
  exact ⟨rfl, rfl⟩
theorem letter_1_3 (w : World) : Calls Tryd.prog 17 #[.string ⟨#[65]⟩, .int .i64 3] w fun e w' => e = .returned (.bool false) ∧ w = w' := by
  have b0 : ((wrap64 (wrap64 ((⟨#[65]⟩ : ByteArray)[0]'(by decide)).toNat - 65) == 3) = false) := by decide +kernel
  go_enter Tryd.func17, Tryd.ntmps17
  go_wp2
  refine wp_loop_rounds 2 ?_
  rw [rounds_succ]
  go_wp2
  rw [rounds_succ]
  go_wp2
  go_ret
  exact ⟨rfl, rfl⟩
theorem letter_2_0 (w : World) : Calls Tryd.prog 17 #[.string ⟨#[65, 66]⟩, .int .i64 0] w fun e w' => e = .returned (.bool true) ∧ w = w' := by
  have b0 : ((wrap64 (wrap64 ((⟨#[65, 66]⟩ : ByteArray)[0]'(by decide)).toNat - 65) == 0) = true) := by decide +kernel
  have b1 : ((wrap64 (wrap64 ((⟨#[65, 66]⟩ : ByteArray)[1]'(by decide)).toNat - 65) == 0) = false) := by decide +kernel
  go_enter Tryd.func17, Tryd.ntmps17
  go_wp2
  refine wp_loop_rounds 1 ?_
  rw [rounds_succ]
  go_wp2
  go_ret
  exact ⟨rfl, rfl⟩
theorem letter_2_1 (w : World) : Calls Tryd.prog 17 #[.string ⟨#[65, 66]⟩, .int .i64 1] w fun e w' => e = .returned (.bool true) ∧ w = w' := by
  have b0 : ((wrap64 (wrap64 ((⟨#[65, 66]⟩ : ByteArray)[0]'(by decide)).toNat - 65) == 1) = false) := by decide +kernel
  have b1 : ((wrap64 (wrap64 ((⟨#[65, 66]⟩ : ByteArray)[1]'(by decide)).toNat - 65) == 1) = true) := by decide +kernel
  go_enter Tryd.func17, Tryd.ntmps17
  go_wp2
  refine wp_loop_rounds 2 ?_
  rw [rounds_succ]
  go_wp2
  rw [rounds_succ]
  go_wp2
  go_ret
  exact ⟨rfl, rfl⟩
theorem letter_2_2 (w : World) : Calls Tryd.prog 17 #[.string ⟨#[65, 66]⟩, .int .i64 2] w fun e w' => e = .returned (.bool false) ∧ w = w' := by
  have b0 : ((wrap64 (wrap64 ((⟨#[65, 66]⟩ : ByteArray)[0]'(by decide)).toNat - 65) == 2) = false) := by decide +kernel
  have b1 : ((wrap64 (wrap64 ((⟨#[65, 66]⟩ : ByteArray)[1]'(by decide)).toNat - 65) == 2) = false) := by decide +kernel
  go_enter Tryd.func17, Tryd.ntmps17
  go_wp2
  refine wp_loop_rounds 3 ?_
  rw [rounds_succ]
  go_wp2
  rw [rounds_succ]
  go_wp2
  rw [rounds_succ]
  go_wp2
  go_ret
  exact ⟨rfl, rfl⟩
theorem letter_2_3 (w : World) : Calls Tryd.prog 17 #[.string ⟨#[65, 66]⟩, .int .i64 3] w fun e w' => e = .returned (.bool false) ∧ w = w' := by
  have b0 : ((wrap64 (wrap64 ((⟨#[65, 66]⟩ : ByteArray)[0]'(by decide)).toNat - 65) == 3) = false) := by decide +kernel
  have b1 : ((wrap64 (wrap64 ((⟨#[65, 66]⟩ : ByteArray)[1]'(by decide)).toNat - 65) == 3) = false) := by decide +kernel
  go_enter Tryd.func17, Tryd.ntmps17
  go_wp2
  refine wp_loop_rounds 3 ?_
  rw [rounds_succ]
  go_wp2
  rw [rounds_succ]
  go_wp2
  rw [rounds_succ]
  go_wp2
  go_ret
  exact ⟨rfl, rfl⟩
theorem letter_3_0 (w : World) : Calls Tryd.prog 17 #[.string ⟨#[67, 68]⟩, .int .i64 0] w fun e w' => e = .returned (.bool false) ∧ w = w' := by
  have b0 : ((wrap64 (wrap64 ((⟨#[67, 68]⟩ : ByteArray)[0]'(by decide)).toNat - 65) == 0) = false) := by decide +kernel
  have b1 : ((wrap64 (wrap64 ((⟨#[67, 68]⟩ : ByteArray)[1]'(by decide)).toNat - 65) == 0) = false) := by decide +kernel
  go_enter Tryd.func17, Tryd.ntmps17
  go_wp2
  refine wp_loop_rounds 3 ?_
  rw [rounds_succ]
  go_wp2
  rw [rounds_succ]
  go_wp2
  rw [rounds_succ]
  go_wp2
  go_ret
  exact ⟨rfl, rfl⟩
theorem letter_3_1 (w : World) : Calls Tryd.prog 17 #[.string ⟨#[67, 68]⟩, .int .i64 1] w fun e w' => e = .returned (.bool false) ∧ w = w' := by
  have b0 : ((wrap64 (wrap64 ((⟨#[67, 68]⟩ : ByteArray)[0]'(by decide)).toNat - 65) == 1) = false) := by decide +kernel
  have b1 : ((wrap64 (wrap64 ((⟨#[67, 68]⟩ : ByteArray)[1]'(by decide)).toNat - 65) == 1) = false) := by decide +kernel
  go_enter Tryd.func17, Tryd.ntmps17
  go_wp2
  refine wp_loop_rounds 3 ?_
  rw [rounds_succ]
  go_wp2
  rw [rounds_succ]
  go_wp2
  rw [rounds_succ]
  go_wp2
  go_ret
  exact ⟨rfl, rfl⟩
theorem letter_3_2 (w : World) : Calls Tryd.prog 17 #[.string ⟨#[67, 68]⟩, .int .i64 2] w fun e w' => e = .returned (.bool true) ∧ w = w' := by
  have b0 : ((wrap64 (wrap64 ((⟨#[67, 68]⟩ : ByteArray)[0]'(by decide)).toNat - 65) == 2) = true) := by decide +kernel
  have b1 : ((wrap64 (wrap64 ((⟨#[67, 68]⟩ : ByteArray)[1]'(by decide)).toNat - 65) == 2) = false) := by decide +kernel
  go_enter Tryd.func17, Tryd.ntmps17
  go_wp2
  refine wp_loop_rounds 1 ?_
  rw [rounds_succ]
  go_wp2
  go_ret
  exact ⟨rfl, rfl⟩
theorem letter_3_3 (w : World) : Calls Tryd.prog 17 #[.string ⟨#[67, 68]⟩, .int .i64 3] w fun e w' => e = .returned (.bool true) ∧ w = w' := by
  have b0 : ((wrap64 (wrap64 ((⟨#[67, 68]⟩ : ByteArray)[0]'(by decide)).toNat - 65) == 3) = false) := by decide +kernel
  have b1 : ((wrap64 (wrap64 ((⟨#[67, 68]⟩ : ByteArray)[1]'(by decide)).toNat - 65) == 3) = true) := by decide +kernel
  go_enter Tryd.func17, Tryd.ntmps17
  go_wp2
  refine wp_loop_rounds 2 ?_
  rw [rounds_succ]
  go_wp2
  rw [rounds_succ]
  go_wp2
  go_ret
  exact ⟨rfl, rfl⟩
theorem letter_4_0 (w : World) : Calls Tryd.prog 17 #[.string ⟨#[65, 66, 67]⟩, .int .i64 0] w fun e w' => e = .returned (.bool true) ∧ w = w' := by
  have b0 : ((wrap64 (wrap64 ((⟨#[65, 66, 67]⟩ : ByteArray)[0]'(by decide)).toNat - 65) == 0) = true) := by decide +kernel
  have b1 : ((wrap64 (wrap64 ((⟨#[65, 66, 67]⟩ : ByteArray)[1]'(by decide)).toNat - 65) == 0) = false) := by decide +kernel
  have b2 : ((wrap64 (wrap64 ((⟨#[65, 66, 67]⟩ : ByteArray)[2]'(by decide)).toNat - 65) == 0) = false) := by decide +kernel
  go_enter Tryd.func17, Tryd.ntmps17
  go_wp2
  refine wp_loop_rounds 1 ?_
  rw [rounds_succ]
  go_wp2
  go_ret
  exact ⟨rfl, rfl⟩
theorem letter_4_1 (w : World) : Calls Tryd.prog 17 #[.string ⟨#[65, 66, 67]⟩, .int .i64 1] w fun e w' => e = .returned (.bool true) ∧ w = w' := by
  have b0 : ((wrap64 (wrap64 ((⟨#[65, 66, 67]⟩ : ByteArray)[0]'(by decide)).toNat - 65) == 1) = false) := by decide +kernel
  have b1 : ((wrap64 (wrap64 ((⟨#[65, 66, 67]⟩ : ByteArray)[1]'(by decide)).toNat - 65) == 1) = true) := by decide +kernel
  have b2 : ((wrap64 (wrap64 ((⟨#[65, 66, 67]⟩ : ByteArray)[2]'(by decide)).toNat - 65) == 1) = false) := by decide +kernel
  go_enter Tryd.func17, Tryd.ntmps17
  go_wp2
  refine wp_loop_rounds 2 ?_
  rw [rounds_succ]
  go_wp2
  rw [rounds_succ]
  go_wp2
  go_ret
  exact ⟨rfl, rfl⟩
theorem letter_4_2 (w : World) : Calls Tryd.prog 17 #[.string ⟨#[65, 66, 67]⟩, .int .i64 2] w fun e w' => e = .returned (.bool true) ∧ w = w' := by
  have b0 : ((wrap64 (wrap64 ((⟨#[65, 66, 67]⟩ : ByteArray)[0]'(by decide)).toNat - 65) == 2) = false) := by decide +kernel
  have b1 : ((wrap64 (wrap64 ((⟨#[65, 66, 67]⟩ : ByteArray)[1]'(by decide)).toNat - 65) == 2) = false) := by decide +kernel
  have b2 : ((wrap64 (wrap64 ((⟨#[65, 66, 67]⟩ : ByteArray)[2]'(by decide)).toNat - 65) == 2) = true) := by decide +kernel
  go_enter Tryd.func17, Tryd.ntmps17
  go_wp2
  refine wp_loop_rounds 3 ?_
  rw [rounds_succ]
  go_wp2
  rw [rounds_succ]
  go_wp2
  rw [rounds_succ]
  go_wp2
  go_ret
  exact ⟨rfl, rfl⟩
theorem letter_4_3 (w : World) : Calls Tryd.prog 17 #[.string ⟨#[65, 66, 67]⟩, .int .i64 3] w fun e w' => e = .returned (.bool false) ∧ w = w' := by
  have b0 : ((wrap64 (wrap64 ((⟨#[65, 66, 67]⟩ : ByteArray)[0]'(by decide)).toNat - 65) == 3) = false) := by decide +kernel
  have b1 : ((wrap64 (wrap64 ((⟨#[65, 66, 67]⟩ : ByteArray)[1]'(by decide)).toNat - 65) == 3) = false) := by decide +kernel
  have b2 : ((wrap64 (wrap64 ((⟨#[65, 66, 67]⟩ : ByteArray)[2]'(by decide)).toNat - 65) == 3) = false) := by decide +kernel
  go_enter Tryd.func17, Tryd.ntmps17
  go_wp2
  refine wp_loop_rounds 4 ?_
  rw [rounds_succ]
  go_wp2
  rw [rounds_succ]
  go_wp2
  rw [rounds_succ]
  go_wp2
  rw [rounds_succ]
  go_wp2
  go_ret
  exact ⟨rfl, rfl⟩
theorem letter_5_0 (w : World) : Calls Tryd.prog 17 #[.string ⟨#[65, 66, 67, 68]⟩, .int .i64 0] w fun e w' => e = .returned (.bool true) ∧ w = w' := by
  have b0 : ((wrap64 (wrap64 ((⟨#[65, 66, 67, 68]⟩ : ByteArray)[0]'(by decide)).toNat - 65) == 0) = true) := by decide +kernel
  have b1 : ((wrap64 (wrap64 ((⟨#[65, 66, 67, 68]⟩ : ByteArray)[1]'(by decide)).toNat - 65) == 0) = false) := by decide +kernel
  have b2 : ((wrap64 (wrap64 ((⟨#[65, 66, 67, 68]⟩ : ByteArray)[2]'(by decide)).toNat - 65) == 0) = false) := by decide +kernel
  have b3 : ((wrap64 (wrap64 ((⟨#[65, 66, 67, 68]⟩ : ByteArray)[3]'(by decide)).toNat - 65) == 0) = false) := by decide +kernel
  go_enter Tryd.func17, Tryd.ntmps17
  go_wp2
  refine wp_loop_rounds 1 ?_
  rw [rounds_succ]
  go_wp2
  go_ret
  exact ⟨rfl, rfl⟩
theorem letter_5_1 (w : World) : Calls Tryd.prog 17 #[.string ⟨#[65, 66, 67, 68]⟩, .int .i64 1] w fun e w' => e = .returned (.bool true) ∧ w = w' := by
  have b0 : ((wrap64 (wrap64 ((⟨#[65, 66, 67, 68]⟩ : ByteArray)[0]'(by decide)).toNat - 65) == 1) = false) := by decide +kernel
  have b1 : ((wrap64 (wrap64 ((⟨#[65, 66, 67, 68]⟩ : ByteArray)[1]'(by decide)).toNat - 65) == 1) = true) := by decide +kernel
  have b2 : ((wrap64 (wrap64 ((⟨#[65, 66, 67, 68]⟩ : ByteArray)[2]'(by decide)).toNat - 65) == 1) = false) := by decide +kernel
  have b3 : ((wrap64 (wrap64 ((⟨#[65, 66, 67, 68]⟩ : ByteArray)[3]'(by decide)).toNat - 65) == 1) = false) := by decide +kernel
  go_enter Tryd.func17, Tryd.ntmps17
  go_wp2
  refine wp_loop_rounds 2 ?_
  rw [rounds_succ]
  go_wp2
  rw [rounds_succ]
  go_wp2
  go_ret
  exact ⟨rfl, rfl⟩
theorem letter_5_2 (w : World) : Calls Tryd.prog 17 #[.string ⟨#[65, 66, 67, 68]⟩, .int .i64 2] w fun e w' => e = .returned (.bool true) ∧ w = w' := by
  have b0 : ((wrap64 (wrap64 ((⟨#[65, 66, 67, 68]⟩ : ByteArray)[0]'(by decide)).toNat - 65) == 2) = false) := by decide +kernel
  have b1 : ((wrap64 (wrap64 ((⟨#[65, 66, 67, 68]⟩ : ByteArray)[1]'(by decide)).toNat - 65) == 2) = false) := by decide +kernel
  have b2 : ((wrap64 (wrap64 ((⟨#[65, 66, 67, 68]⟩ : ByteArray)[2]'(by decide)).toNat - 65) == 2) = true) := by decide +kernel
  have b3 : ((wrap64 (wrap64 ((⟨#[65, 66, 67, 68]⟩ : ByteArray)[3]'(by decide)).toNat - 65) == 2) = false) := by decide +kernel
  go_enter Tryd.func17, Tryd.ntmps17
  go_wp2
  refine wp_loop_rounds 3 ?_
  rw [rounds_succ]
  go_wp2
  rw [rounds_succ]
  go_wp2
  rw [rounds_succ]
  go_wp2
  go_ret
  exact ⟨rfl, rfl⟩
theorem letter_5_3 (w : World) : Calls Tryd.prog 17 #[.string ⟨#[65, 66, 67, 68]⟩, .int .i64 3] w fun e w' => e = .returned (.bool true) ∧ w = w' := by
  have b0 : ((wrap64 (wrap64 ((⟨#[65, 66, 67, 68]⟩ : ByteArray)[0]'(by decide)).toNat - 65) == 3) = false) := by decide +kernel
  have b1 : ((wrap64 (wrap64 ((⟨#[65, 66, 67, 68]⟩ : ByteArray)[1]'(by decide)).toNat - 65) == 3) = false) := by decide +kernel
  have b2 : ((wrap64 (wrap64 ((⟨#[65, 66, 67, 68]⟩ : ByteArray)[2]'(by decide)).toNat - 65) == 3) = false) := by decide +kernel
  have b3 : ((wrap64 (wrap64 ((⟨#[65, 66, 67, 68]⟩ : ByteArray)[3]'(by decide)).toNat - 65) == 3) = true) := by decide +kernel
  go_enter Tryd.func17, Tryd.ntmps17
  go_wp2
  refine wp_loop_rounds 4 ?_
  rw [rounds_succ]
  go_wp2
  rw [rounds_succ]
  go_wp2
  rw [rounds_succ]
  go_wp2
  rw [rounds_succ]
  go_wp2
  go_ret
  exact ⟨rfl, rfl⟩
theorem letter_at (n i : Nat) (w : World) (h : n ≤ 19) (hi : i < 4) : Calls Tryd.prog 17 #[.string (hasS n), .int .i64 i] w fun e w' => e = .returned (.bool (hasI n i)) ∧ w = w' := by
  rcases (show i = 0 ∨ i = 1 ∨ i = 2 ∨ i = 3 by omega) with rfl | rfl | rfl | rfl
  · rcases (show n = 0 ∨ n = 1 ∨ n = 2 ∨ n = 3 ∨ n = 4 ∨ n = 5 ∨ n = 6 ∨ n = 7 ∨ n = 8 ∨ n = 9 ∨ n = 10 ∨ n = 11 ∨ n = 12 ∨ n = 13 ∨ n = 14 ∨ n = 15 ∨ n = 16 ∨ n = 17 ∨ n = 18 ∨ n = 19 by omega) with rfl | rfl | rfl | rfl | rfl | rfl | rfl | rfl | rfl | rfl | rfl | rfl | rfl | rfl | rfl | rfl | rfl | rfl | rfl | rfl
    · exact letter_0_0 w
    · exact letter_1_0 w
    · exact letter_1_0 w
    · exact letter_2_0 w
    · exact letter_4_0 w
    · exact letter_4_0 w
    · exact letter_1_0 w
    · exact letter_4_0 w
    · exact letter_5_0 w
    · exact letter_1_0 w
    · exact letter_1_0 w
    · exact letter_1_0 w
    · exact letter_1_0 w
    · exact letter_2_0 w
    · exact letter_1_0 w
    · exact letter_3_0 w
    · exact letter_0_0 w
    · exact letter_2_0 w
    · exact letter_0_0 w
    · exact letter_0_0 w
  · rcases (show n = 0 ∨ n = 1 ∨ n = 2 ∨ n = 3 ∨ n = 4 ∨ n = 5 ∨ n = 6 ∨ n = 7 ∨ n = 8 ∨ n = 9 ∨ n = 10 ∨ n = 11 ∨ n = 12 ∨ n = 13 ∨ n = 14 ∨ n = 15 ∨ n = 16 ∨ n = 17 ∨ n = 18 ∨ n = 19 by omega) with rfl | rfl | rfl | rfl | rfl | rfl | rfl | rfl | rfl | rfl | rfl | rfl | rfl | rfl | rfl | rfl | rfl | rfl | rfl | rfl
    · exact letter_0_1 w
    · exact letter_1_1 w
    · exact letter_1_1 w
    · exact letter_2_1 w
    · exact letter_4_1 w
    · exact letter_4_1 w
    · exact letter_1_1 w
    · exact letter_4_1 w
    · exact letter_5_1 w
    · exact letter_1_1 w
    · exact letter_1_1 w
    · exact letter_1_1 w
    · exact letter_1_1 w
    · exact letter_2_1 w
    · exact letter_1_1 w
    · exact letter_3_1 w
    · exact letter_0_1 w
    · exact letter_2_1 w
    · exact letter_0_1 w
    · exact letter_0_1 w
  · rcases (show n = 0 ∨ n = 1 ∨ n = 2 ∨ n = 3 ∨ n = 4 ∨ n = 5 ∨ n = 6 ∨ n = 7 ∨ n = 8 ∨ n = 9 ∨ n = 10 ∨ n = 11 ∨ n = 12 ∨ n = 13 ∨ n = 14 ∨ n = 15 ∨ n = 16 ∨ n = 17 ∨ n = 18 ∨ n = 19 by omega) with rfl | rfl | rfl | rfl | rfl | rfl | rfl | rfl | rfl | rfl | rfl | rfl | rfl | rfl | rfl | rfl | rfl | rfl | rfl | rfl
    · exact letter_0_2 w
    · exact letter_1_2 w
    · exact letter_1_2 w
    · exact letter_2_2 w
    · exact letter_4_2 w
    · exact letter_4_2 w
    · exact letter_1_2 w
    · exact letter_4_2 w
    · exact letter_5_2 w
    · exact letter_1_2 w
    · exact letter_1_2 w
    · exact letter_1_2 w
    · exact letter_1_2 w
    · exact letter_2_2 w
    · exact letter_1_2 w
    · exact letter_3_2 w
    · exact letter_0_2 w
    · exact letter_2_2 w
    · exact letter_0_2 w
    · exact letter_0_2 w
  · rcases (show n = 0 ∨ n = 1 ∨ n = 2 ∨ n = 3 ∨ n = 4 ∨ n = 5 ∨ n = 6 ∨ n = 7 ∨ n = 8 ∨ n = 9 ∨ n = 10 ∨ n = 11 ∨ n = 12 ∨ n = 13 ∨ n = 14 ∨ n = 15 ∨ n = 16 ∨ n = 17 ∨ n = 18 ∨ n = 19 by omega) with rfl | rfl | rfl | rfl | rfl | rfl | rfl | rfl | rfl | rfl | rfl | rfl | rfl | rfl | rfl | rfl | rfl | rfl | rfl | rfl
    · exact letter_0_3 w
    · exact letter_1_3 w
    · exact letter_1_3 w
    · exact letter_2_3 w
    · exact letter_4_3 w
    · exact letter_4_3 w
    · exact letter_1_3 w
    · exact letter_4_3 w
    · exact letter_5_3 w
    · exact letter_1_3 w
    · exact letter_1_3 w
    · exact letter_1_3 w
    · exact letter_1_3 w
    · exact letter_2_3 w
    · exact letter_1_3 w
    · exact letter_3_3 w
    · exact letter_0_3 w
    · exact letter_2_3 w
    · exact letter_0_3 w
    · exact letter_0_3 w
end Go.Proofs.YtjojnfnjekjjnaaDoor
