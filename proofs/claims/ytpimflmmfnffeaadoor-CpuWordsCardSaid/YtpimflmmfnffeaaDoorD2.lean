/- Walks: letters. -/
import Derived.Test.YtpimflmmfnffeaaDoorD1
namespace Go.Proofs.YtpimflmmfnffeaaDoor
open Go.RowKit

theorem letter_0_0 (w : World) : Calls Tryd.prog 20 #[.string ⟨#[]⟩, .int .u8 65] w fun e w' => e = .returned (.bool false) ∧ w = w' := by
  go_enter Tryd.func20, Tryd.ntmps20
  go_wp2
  refine wp_loop_rounds 1 ?_
  rw [rounds_succ]
  go_wp2
  go_ret
  exact ⟨rfl, rfl⟩
theorem letter_0_1 (w : World) : Calls Tryd.prog 20 #[.string ⟨#[]⟩, .int .u8 66] w fun e w' => e = .returned (.bool false) ∧ w = w' := by
  go_enter Tryd.func20, Tryd.ntmps20
  go_wp2
  refine wp_loop_rounds 1 ?_
  rw [rounds_succ]
  go_wp2
  go_ret
  exact ⟨rfl, rfl⟩
theorem letter_0_2 (w : World) : Calls Tryd.prog 20 #[.string ⟨#[]⟩, .int .u8 67] w fun e w' => e = .returned (.bool false) ∧ w = w' := by
  go_enter Tryd.func20, Tryd.ntmps20
  go_wp2
  refine wp_loop_rounds 1 ?_
  rw [rounds_succ]
  go_wp2
  go_ret
  exact ⟨rfl, rfl⟩
theorem letter_0_3 (w : World) : Calls Tryd.prog 20 #[.string ⟨#[]⟩, .int .u8 78] w fun e w' => e = .returned (.bool false) ∧ w = w' := by
  go_enter Tryd.func20, Tryd.ntmps20
  go_wp2
  refine wp_loop_rounds 1 ?_
  rw [rounds_succ]
  go_wp2
  go_ret
  exact ⟨rfl, rfl⟩
theorem letter_1_0 (w : World) : Calls Tryd.prog 20 #[.string ⟨#[65]⟩, .int .u8 65] w fun e w' => e = .returned (.bool true) ∧ w = w' := by
  have b0 : ((((⟨#[65]⟩ : ByteArray)[0]'(by decide)).toNat : Int) == 65) = true := by decide +kernel
  go_enter Tryd.func20, Tryd.ntmps20
  go_wp2
  refine wp_loop_rounds 1 ?_
  rw [rounds_succ]
  go_wp2
  go_ret
  exact ⟨rfl, rfl⟩
theorem letter_1_1 (w : World) : Calls Tryd.prog 20 #[.string ⟨#[65]⟩, .int .u8 66] w fun e w' => e = .returned (.bool false) ∧ w = w' := by
  have b0 : ((((⟨#[65]⟩ : ByteArray)[0]'(by decide)).toNat : Int) == 66) = false := by decide +kernel
  go_enter Tryd.func20, Tryd.ntmps20
  go_wp2
  refine wp_loop_rounds 2 ?_
  rw [rounds_succ]
  go_wp2
  rw [rounds_succ]
  go_wp2
  go_ret
  exact ⟨rfl, rfl⟩
theorem letter_1_2 (w : World) : Calls Tryd.prog 20 #[.string ⟨#[65]⟩, .int .u8 67] w fun e w' => e = .returned (.bool false) ∧ w = w' := by
  have b0 : ((((⟨#[65]⟩ : ByteArray)[0]'(by decide)).toNat : Int) == 67) = false := by decide +kernel
  go_enter Tryd.func20, Tryd.ntmps20
  go_wp2
  refine wp_loop_rounds 2 ?_
  rw [rounds_succ]
  go_wp2
  rw [rounds_succ]
  go_wp2
  go_ret
  exact ⟨rfl, rfl⟩
theorem letter_1_3 (w : World) : Calls Tryd.prog 20 #[.string ⟨#[65]⟩, .int .u8 78] w fun e w' => e = .returned (.bool false) ∧ w = w' := by
  have b0 : ((((⟨#[65]⟩ : ByteArray)[0]'(by decide)).toNat : Int) == 78) = false := by decide +kernel
  go_enter Tryd.func20, Tryd.ntmps20
  go_wp2
  refine wp_loop_rounds 2 ?_
  rw [rounds_succ]
  go_wp2
  rw [rounds_succ]
  go_wp2
  go_ret
  exact ⟨rfl, rfl⟩
theorem letter_2_0 (w : World) : Calls Tryd.prog 20 #[.string ⟨#[78]⟩, .int .u8 65] w fun e w' => e = .returned (.bool false) ∧ w = w' := by
  have b0 : ((((⟨#[78]⟩ : ByteArray)[0]'(by decide)).toNat : Int) == 65) = false := by decide +kernel
  go_enter Tryd.func20, Tryd.ntmps20
  go_wp2
  refine wp_loop_rounds 2 ?_
  rw [rounds_succ]
  go_wp2
  rw [rounds_succ]
  go_wp2
  go_ret
  exact ⟨rfl, rfl⟩
theorem letter_2_1 (w : World) : Calls Tryd.prog 20 #[.string ⟨#[78]⟩, .int .u8 66] w fun e w' => e = .returned (.bool false) ∧ w = w' := by
  have b0 : ((((⟨#[78]⟩ : ByteArray)[0]'(by decide)).toNat : Int) == 66) = false := by decide +kernel
  go_enter Tryd.func20, Tryd.ntmps20
  go_wp2
  refine wp_loop_rounds 2 ?_
  rw [rounds_succ]
  go_wp2
  rw [rounds_succ]
  go_wp2
  go_ret
  exact ⟨rfl, rfl⟩
theorem letter_2_2 (w : World) : Calls Tryd.prog 20 #[.string ⟨#[78]⟩, .int .u8 67] w fun e w' => e = .returned (.bool false) ∧ w = w' := by
  have b0 : ((((⟨#[78]⟩ : ByteArray)[0]'(by decide)).toNat : Int) == 67) = false := by decide +kernel
  go_enter Tryd.func20, Tryd.ntmps20
  go_wp2
  refine wp_loop_rounds 2 ?_
  rw [rounds_succ]
  go_wp2
  rw [rounds_succ]
  go_wp2
  go_ret
  exact ⟨rfl, rfl⟩
theorem letter_2_3 (w : World) : Calls Tryd.prog 20 #[.string ⟨#[78]⟩, .int .u8 78] w fun e w' => e = .returned (.bool true) ∧ w = w' := by
  have b0 : ((((⟨#[78]⟩ : ByteArray)[0]'(by decide)).toNat : Int) == 78) = true := by decide +kernel
  go_enter Tryd.func20, Tryd.ntmps20
  go_wp2
  refine wp_loop_rounds 1 ?_
  rw [rounds_succ]
  go_wp2
  go_ret
  exact ⟨rfl, rfl⟩
theorem letter_3_0 (w : World) : Calls Tryd.prog 20 #[.string ⟨#[65, 78]⟩, .int .u8 65] w fun e w' => e = .returned (.bool true) ∧ w = w' := by
  have b0 : ((((⟨#[65, 78]⟩ : ByteArray)[0]'(by decide)).toNat : Int) == 65) = true := by decide +kernel
  have b1 : ((((⟨#[65, 78]⟩ : ByteArray)[1]'(by decide)).toNat : Int) == 65) = false := by decide +kernel
  go_enter Tryd.func20, Tryd.ntmps20
  go_wp2
  refine wp_loop_rounds 1 ?_
  rw [rounds_succ]
  go_wp2
  go_ret
  exact ⟨rfl, rfl⟩
theorem letter_3_1 (w : World) : Calls Tryd.prog 20 #[.string ⟨#[65, 78]⟩, .int .u8 66] w fun e w' => e = .returned (.bool false) ∧ w = w' := by
  have b0 : ((((⟨#[65, 78]⟩ : ByteArray)[0]'(by decide)).toNat : Int) == 66) = false := by decide +kernel
  have b1 : ((((⟨#[65, 78]⟩ : ByteArray)[1]'(by decide)).toNat : Int) == 66) = false := by decide +kernel
  go_enter Tryd.func20, Tryd.ntmps20
  go_wp2
  refine wp_loop_rounds 3 ?_
  rw [rounds_succ]
  go_wp2
  rw [rounds_succ]
  go_wp2
  rw [rounds_succ]
  go_wp2
  go_ret
  exact ⟨rfl, rfl⟩
theorem letter_3_2 (w : World) : Calls Tryd.prog 20 #[.string ⟨#[65, 78]⟩, .int .u8 67] w fun e w' => e = .returned (.bool false) ∧ w = w' := by
  have b0 : ((((⟨#[65, 78]⟩ : ByteArray)[0]'(by decide)).toNat : Int) == 67) = false := by decide +kernel
  have b1 : ((((⟨#[65, 78]⟩ : ByteArray)[1]'(by decide)).toNat : Int) == 67) = false := by decide +kernel
  go_enter Tryd.func20, Tryd.ntmps20
  go_wp2
  refine wp_loop_rounds 3 ?_
  rw [rounds_succ]
  go_wp2
  rw [rounds_succ]
  go_wp2
  rw [rounds_succ]
  go_wp2
  go_ret
  exact ⟨rfl, rfl⟩
theorem letter_3_3 (w : World) : Calls Tryd.prog 20 #[.string ⟨#[65, 78]⟩, .int .u8 78] w fun e w' => e = .returned (.bool true) ∧ w = w' := by
  have b0 : ((((⟨#[65, 78]⟩ : ByteArray)[0]'(by decide)).toNat : Int) == 78) = false := by decide +kernel
  have b1 : ((((⟨#[65, 78]⟩ : ByteArray)[1]'(by decide)).toNat : Int) == 78) = true := by decide +kernel
  go_enter Tryd.func20, Tryd.ntmps20
  go_wp2
  refine wp_loop_rounds 2 ?_
  rw [rounds_succ]
  go_wp2
  rw [rounds_succ]
  go_wp2
  go_ret
  exact ⟨rfl, rfl⟩
theorem letter_4_0 (w : World) : Calls Tryd.prog 20 #[.string ⟨#[65, 66, 67]⟩, .int .u8 65] w fun e w' => e = .returned (.bool true) ∧ w = w' := by
  have b0 : ((((⟨#[65, 66, 67]⟩ : ByteArray)[0]'(by decide)).toNat : Int) == 65) = true := by decide +kernel
  have b1 : ((((⟨#[65, 66, 67]⟩ : ByteArray)[1]'(by decide)).toNat : Int) == 65) = false := by decide +kernel
  have b2 : ((((⟨#[65, 66, 67]⟩ : ByteArray)[2]'(by decide)).toNat : Int) == 65) = false := by decide +kernel
  go_enter Tryd.func20, Tryd.ntmps20
  go_wp2
  refine wp_loop_rounds 1 ?_
  rw [rounds_succ]
  go_wp2
  go_ret
  exact ⟨rfl, rfl⟩
theorem letter_4_1 (w : World) : Calls Tryd.prog 20 #[.string ⟨#[65, 66, 67]⟩, .int .u8 66] w fun e w' => e = .returned (.bool true) ∧ w = w' := by
  have b0 : ((((⟨#[65, 66, 67]⟩ : ByteArray)[0]'(by decide)).toNat : Int) == 66) = false := by decide +kernel
  have b1 : ((((⟨#[65, 66, 67]⟩ : ByteArray)[1]'(by decide)).toNat : Int) == 66) = true := by decide +kernel
  have b2 : ((((⟨#[65, 66, 67]⟩ : ByteArray)[2]'(by decide)).toNat : Int) == 66) = false := by decide +kernel
  go_enter Tryd.func20, Tryd.ntmps20
  go_wp2
  refine wp_loop_rounds 2 ?_
  rw [rounds_succ]
  go_wp2
  rw [rounds_succ]
  go_wp2
  go_ret
  exact ⟨rfl, rfl⟩
theorem letter_4_2 (w : World) : Calls Tryd.prog 20 #[.string ⟨#[65, 66, 67]⟩, .int .u8 67] w fun e w' => e = .returned (.bool true) ∧ w = w' := by
  have b0 : ((((⟨#[65, 66, 67]⟩ : ByteArray)[0]'(by decide)).toNat : Int) == 67) = false := by decide +kernel
  have b1 : ((((⟨#[65, 66, 67]⟩ : ByteArray)[1]'(by decide)).toNat : Int) == 67) = false := by decide +kernel
  have b2 : ((((⟨#[65, 66, 67]⟩ : ByteArray)[2]'(by decide)).toNat : Int) == 67) = true := by decide +kernel
  go_enter Tryd.func20, Tryd.ntmps20
  go_wp2
  refine wp_loop_rounds 3 ?_
  rw [rounds_succ]
  go_wp2
  rw [rounds_succ]
  go_wp2
  rw [rounds_succ]
  go_wp2
  go_ret
  exact ⟨rfl, rfl⟩
theorem letter_4_3 (w : World) : Calls Tryd.prog 20 #[.string ⟨#[65, 66, 67]⟩, .int .u8 78] w fun e w' => e = .returned (.bool false) ∧ w = w' := by
  have b0 : ((((⟨#[65, 66, 67]⟩ : ByteArray)[0]'(by decide)).toNat : Int) == 78) = false := by decide +kernel
  have b1 : ((((⟨#[65, 66, 67]⟩ : ByteArray)[1]'(by decide)).toNat : Int) == 78) = false := by decide +kernel
  have b2 : ((((⟨#[65, 66, 67]⟩ : ByteArray)[2]'(by decide)).toNat : Int) == 78) = false := by decide +kernel
  go_enter Tryd.func20, Tryd.ntmps20
  go_wp2
  refine wp_loop_rounds 4 ?_
  rw [rounds_succ]
  go_wp2
  rw [rounds_succ]
  go_wp2
  rw [rounds_succ]
  go_wp2
  rw [rounds_succ]
  go_wp2
  go_ret
  exact ⟨rfl, rfl⟩
theorem letter_5_0 (w : World) : Calls Tryd.prog 20 #[.string ⟨#[65, 66, 78]⟩, .int .u8 65] w fun e w' => e = .returned (.bool true) ∧ w = w' := by
  have b0 : ((((⟨#[65, 66, 78]⟩ : ByteArray)[0]'(by decide)).toNat : Int) == 65) = true := by decide +kernel
  have b1 : ((((⟨#[65, 66, 78]⟩ : ByteArray)[1]'(by decide)).toNat : Int) == 65) = false := by decide +kernel
  have b2 : ((((⟨#[65, 66, 78]⟩ : ByteArray)[2]'(by decide)).toNat : Int) == 65) = false := by decide +kernel
  go_enter Tryd.func20, Tryd.ntmps20
  go_wp2
  refine wp_loop_rounds 1 ?_
  rw [rounds_succ]
  go_wp2
  go_ret
  exact ⟨rfl, rfl⟩
theorem letter_5_1 (w : World) : Calls Tryd.prog 20 #[.string ⟨#[65, 66, 78]⟩, .int .u8 66] w fun e w' => e = .returned (.bool true) ∧ w = w' := by
  have b0 : ((((⟨#[65, 66, 78]⟩ : ByteArray)[0]'(by decide)).toNat : Int) == 66) = false := by decide +kernel
  have b1 : ((((⟨#[65, 66, 78]⟩ : ByteArray)[1]'(by decide)).toNat : Int) == 66) = true := by decide +kernel
  have b2 : ((((⟨#[65, 66, 78]⟩ : ByteArray)[2]'(by decide)).toNat : Int) == 66) = false := by decide +kernel
  go_enter Tryd.func20, Tryd.ntmps20
  go_wp2
  refine wp_loop_rounds 2 ?_
  rw [rounds_succ]
  go_wp2
  rw [rounds_succ]
  go_wp2
  go_ret
  exact ⟨rfl, rfl⟩
theorem letter_5_2 (w : World) : Calls Tryd.prog 20 #[.string ⟨#[65, 66, 78]⟩, .int .u8 67] w fun e w' => e = .returned (.bool false) ∧ w = w' := by
  have b0 : ((((⟨#[65, 66, 78]⟩ : ByteArray)[0]'(by decide)).toNat : Int) == 67) = false := by decide +kernel
  have b1 : ((((⟨#[65, 66, 78]⟩ : ByteArray)[1]'(by decide)).toNat : Int) == 67) = false := by decide +kernel
  have b2 : ((((⟨#[65, 66, 78]⟩ : ByteArray)[2]'(by decide)).toNat : Int) == 67) = false := by decide +kernel
  go_enter Tryd.func20, Tryd.ntmps20
  go_wp2
  refine wp_loop_rounds 4 ?_
  rw [rounds_succ]
  go_wp2
  rw [rounds_succ]
  go_wp2
  rw [rounds_succ]
  go_wp2
  rw [rounds_succ]
  go_wp2
  go_ret
  exact ⟨rfl, rfl⟩
theorem letter_5_3 (w : World) : Calls Tryd.prog 20 #[.string ⟨#[65, 66, 78]⟩, .int .u8 78] w fun e w' => e = .returned (.bool true) ∧ w = w' := by
  have b0 : ((((⟨#[65, 66, 78]⟩ : ByteArray)[0]'(by decide)).toNat : Int) == 78) = false := by decide +kernel
  have b1 : ((((⟨#[65, 66, 78]⟩ : ByteArray)[1]'(by decide)).toNat : Int) == 78) = false := by decide +kernel
  have b2 : ((((⟨#[65, 66, 78]⟩ : ByteArray)[2]'(by decide)).toNat : Int) == 78) = true := by decide +kernel
  go_enter Tryd.func20, Tryd.ntmps20
  go_wp2
  refine wp_loop_rounds 3 ?_
  rw [rounds_succ]
  go_wp2
  rw [rounds_succ]
  go_wp2
  rw [rounds_succ]
  go_wp2
  go_ret
  exact ⟨rfl, rfl⟩
def letN (i : Nat) : Int := match i with | 0 => 65 | 1 => 66 | 2 => 67 | _ => 78
theorem letter_at (n i : Nat) (w : World) (h : n ≤ 18) (hi : i < 4) : Calls Tryd.prog 20 #[.string (hasS n), .int .u8 (letN i)] w fun e w' => e = .returned (.bool (hasI n i)) ∧ w = w' := by
  rcases (show i = 0 ∨ i = 1 ∨ i = 2 ∨ i = 3 by omega) with rfl | rfl | rfl | rfl
  · rcases (show n = 0 ∨ n = 1 ∨ n = 2 ∨ n = 3 ∨ n = 4 ∨ n = 5 ∨ n = 6 ∨ n = 7 ∨ n = 8 ∨ n = 9 ∨ n = 10 ∨ n = 11 ∨ n = 12 ∨ n = 13 ∨ n = 14 ∨ n = 15 ∨ n = 16 ∨ n = 17 ∨ n = 18 by omega) with rfl | rfl | rfl | rfl | rfl | rfl | rfl | rfl | rfl | rfl | rfl | rfl | rfl | rfl | rfl | rfl | rfl | rfl | rfl
    · exact letter_0_0 w
    · exact letter_3_0 w
    · exact letter_4_0 w
    · exact letter_4_0 w
    · exact letter_4_0 w
    · exact letter_4_0 w
    · exact letter_4_0 w
    · exact letter_4_0 w
    · exact letter_4_0 w
    · exact letter_4_0 w
    · exact letter_4_0 w
    · exact letter_4_0 w
    · exact letter_5_0 w
    · exact letter_5_0 w
    · exact letter_2_0 w
    · exact letter_3_0 w
    · exact letter_1_0 w
    · exact letter_3_0 w
    · exact letter_1_0 w
  · rcases (show n = 0 ∨ n = 1 ∨ n = 2 ∨ n = 3 ∨ n = 4 ∨ n = 5 ∨ n = 6 ∨ n = 7 ∨ n = 8 ∨ n = 9 ∨ n = 10 ∨ n = 11 ∨ n = 12 ∨ n = 13 ∨ n = 14 ∨ n = 15 ∨ n = 16 ∨ n = 17 ∨ n = 18 by omega) with rfl | rfl | rfl | rfl | rfl | rfl | rfl | rfl | rfl | rfl | rfl | rfl | rfl | rfl | rfl | rfl | rfl | rfl | rfl
    · exact letter_0_1 w
    · exact letter_3_1 w
    · exact letter_4_1 w
    · exact letter_4_1 w
    · exact letter_4_1 w
    · exact letter_4_1 w
    · exact letter_4_1 w
    · exact letter_4_1 w
    · exact letter_4_1 w
    · exact letter_4_1 w
    · exact letter_4_1 w
    · exact letter_4_1 w
    · exact letter_5_1 w
    · exact letter_5_1 w
    · exact letter_2_1 w
    · exact letter_3_1 w
    · exact letter_1_1 w
    · exact letter_3_1 w
    · exact letter_1_1 w
  · rcases (show n = 0 ∨ n = 1 ∨ n = 2 ∨ n = 3 ∨ n = 4 ∨ n = 5 ∨ n = 6 ∨ n = 7 ∨ n = 8 ∨ n = 9 ∨ n = 10 ∨ n = 11 ∨ n = 12 ∨ n = 13 ∨ n = 14 ∨ n = 15 ∨ n = 16 ∨ n = 17 ∨ n = 18 by omega) with rfl | rfl | rfl | rfl | rfl | rfl | rfl | rfl | rfl | rfl | rfl | rfl | rfl | rfl | rfl | rfl | rfl | rfl | rfl
    · exact letter_0_2 w
    · exact letter_3_2 w
    · exact letter_4_2 w
    · exact letter_4_2 w
    · exact letter_4_2 w
    · exact letter_4_2 w
    · exact letter_4_2 w
    · exact letter_4_2 w
    · exact letter_4_2 w
    · exact letter_4_2 w
    · exact letter_4_2 w
    · exact letter_4_2 w
    · exact letter_5_2 w
    · exact letter_5_2 w
    · exact letter_2_2 w
    · exact letter_3_2 w
    · exact letter_1_2 w
    · exact letter_3_2 w
    · exact letter_1_2 w
  · rcases (show n = 0 ∨ n = 1 ∨ n = 2 ∨ n = 3 ∨ n = 4 ∨ n = 5 ∨ n = 6 ∨ n = 7 ∨ n = 8 ∨ n = 9 ∨ n = 10 ∨ n = 11 ∨ n = 12 ∨ n = 13 ∨ n = 14 ∨ n = 15 ∨ n = 16 ∨ n = 17 ∨ n = 18 by omega) with rfl | rfl | rfl | rfl | rfl | rfl | rfl | rfl | rfl | rfl | rfl | rfl | rfl | rfl | rfl | rfl | rfl | rfl | rfl
    · exact letter_0_3 w
    · exact letter_3_3 w
    · exact letter_4_3 w
    · exact letter_4_3 w
    · exact letter_4_3 w
    · exact letter_4_3 w
    · exact letter_4_3 w
    · exact letter_4_3 w
    · exact letter_4_3 w
    · exact letter_4_3 w
    · exact letter_4_3 w
    · exact letter_4_3 w
    · exact letter_5_3 w
    · exact letter_5_3 w
    · exact letter_2_3 w
    · exact letter_3_3 w
    · exact letter_1_3 w
    · exact letter_3_3 w
    · exact letter_1_3 w
end Go.Proofs.YtpimflmmfnffeaaDoor
