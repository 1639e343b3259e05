/- Walks: the document's greatest common divisor, and its rounds. -/
import Derived.Test.YtkhbnklaglnfdaaW7
import Derived.Test.YtkhbnklaglnfdaaM6
namespace Go.Proofs.Ytkhbnklaglnfdaa
open Go.RowKit

/-- how far the document's loop has come -/
def Near (k a b : Nat) : Prop := k = 0 ∨ (b ≤ a ∧ a * b * 2 ^ k < 2 ^ 130)
theorem near_step {k a b : Nat} (ha : a < 2 ^ 64) (hb : b < 2 ^ 64) (h0 : 0 < b) (h : Near k a b) : Near (k + 1) b (a % b) := by
  right
  have hm : a % b < b := Nat.mod_lt _ h0
  refine ⟨Nat.le_of_lt hm, ?_⟩
  rcases h with h | ⟨h1, h2⟩
  · subst h
    have : b * (a % b) < 2 ^ 64 * 2 ^ 64 := Nat.mul_lt_mul_of_lt_of_le hb (Nat.le_of_lt (Nat.lt_trans hm hb)) (by omega)
    omega
  · have h3 : 2 * (a % b) ≤ a := by
      have := Nat.div_add_mod a b
      have h4 : 1 ≤ a / b := (Nat.one_le_div_iff h0).2 h1
      have h5 : b * 1 ≤ b * (a / b) := Nat.mul_le_mul_left _ h4
      omega
    have h6 : b * (a % b) * 2 ^ (k + 1) = b * (2 * (a % b)) * 2 ^ k := by
      rw [Nat.pow_succ, Nat.mul_comm (2 ^ k) 2, ← Nat.mul_assoc, Nat.mul_assoc b (a % b) 2, Nat.mul_comm (a % b) 2]
    rw [h6]
    refine Nat.lt_of_le_of_lt (Nat.mul_le_mul_right _ (Nat.mul_le_mul_left _ h3)) ?_
    rw [Nat.mul_comm b a]
    exact h2
theorem near_end {a b : Nat} (h : Near 200 a b) : b = 0 := by
  rcases h with h | ⟨h1, h2⟩
  · omega
  · rcases Nat.eq_zero_or_pos b with h0 | h0
    · exact h0
    · exfalso
      have h3 : 1 ≤ a * b := Nat.mul_pos (by omega) h0
      have h4 : 1 * 2 ^ 200 ≤ a * b * 2 ^ 200 := Nat.mul_le_mul_right _ h3
      have h5 : (2 : Nat) ^ 130 < 1 * 2 ^ 200 := by decide
      omega
set_option maxRecDepth 100000 in
set_option maxHeartbeats 1000000 in
theorem common_any (a b : Nat) (w : World) (ha : a < 18446744073709551616) (hb : b < 18446744073709551616) :
    Calls Try.prog 23 #[.int .u64 a, .int .u64 b] w fun e w' => e = .returned (.int .u64 (Nat.gcd a b : Nat)) ∧ w = w' := by
  go_enter Try.func23, Try.ntmps23
  go_wp2
  go_loop [0, 1, 5, 6] (fun va vb vi _ => ∃ (k x y : Nat), k ≤ 200 ∧ vi = .int .i64 k ∧ va = .int .u64 x ∧ vb = .int .u64 y ∧ x < 18446744073709551616 ∧ y < 18446744073709551616 ∧ Hid (Nat.gcd x y = Nat.gcd a b) ∧ Hid (Near k x y)) (fun _ _ i _ => 200 - (intOf i).toNat)
  case atStart => exact ⟨0, a, b, by omega, rfl, rfl, rfl, ha, hb, rfl, .inl rfl⟩
  case round =>
    obtain ⟨k, x, y, hk, rfl, rfl, rfl, hx, hy, HG, HN⟩ := hrel
    by_cases h0 : y = 0
    · subst h0
      by_cases hk2 : k < 200
      all_goals
        go_wp2
        go_ret
        refine ⟨ret_int ?_, rfl⟩
        rw [← HG.out, Nat.gcd_zero_right]
    · by_cases hk2 : k < 200
      · have h2 : (0 : Int) < (y : Int) := by omega
        go_wp2
        go_round
        case rel => exact ⟨k + 1, y, x % y, by omega, by go_num, rfl, by rw [Int.natCast_emod], hy, Nat.lt_trans (Nat.mod_lt _ (by omega)) hy, (gcd_step x y).trans HG.out, near_step hx hy (by omega) HN.out⟩
        case measure => simp [intOf]; omega
      · obtain rfl : k = 200 := by omega
        exact absurd (near_end HN.out) h0
set_option maxRecDepth 100000 in
set_option maxHeartbeats 4000000 in
theorem rhyp_any (A : Option Addr) (l : List Tk) (c : Nat) (m : Nat) (w : World) (hs : Sl eT 3 w A l) (h : allT l = true) (h1 : 1 ≤ m) (h2 : m ≤ 4096) :
    Calls Try.prog 14 #[.slice A l.length c, .int .i64 m] w fun e w' => e = .returned (hypT (hypM l m l.length)) ∧ w = w' := by
  have hs8 := allT_len h
  have H := Lib.hid h
  clear h
  go_enter Try.func14, Try.ntmps14
  go_wp2_with fail
  go_loop [6, 7] (fun s i => ∃ (k j : Nat), k ≤ l.length ∧ i = .int .i64 k ∧ s = .int .u64 j ∧ j ≤ 4096 ∧ Hid (hypM l m k = some j)) (fun _ i => l.length - (intOf i).toNat)
  case atStart => exact ⟨0, 1, Nat.zero_le _, rfl, rfl, by omega, rfl⟩
  case round =>
    obtain ⟨k, j, hk, rfl, rfl, hj4, HJ⟩ := hrel
    by_cases hlt : k < l.length
    · obtain ⟨b, off, rfl, c0, c1, c2⟩ := hs.tk_at hlt
      have k0 : (0 : Int) ≤ (k : Int) := by omega
      have k1 : (k : Int) < (l.length : Int) := by omega
      have hr := allT_at H.out hlt
      have hj := hyp_pos (allT_mem H.out) h1 hk HJ.out
      have HN : Hid (hypM l m (k + 1) = if m < j / Nat.gcd j l[k].period.toNat * l[k].period.toNat then none else some (j / Nat.gcd j l[k].period.toNat * l[k].period.toNat)) := by
        show _ = _
        rw [hyp_step HJ.out]
        unfold stepH pN tk
        rw [getD_tk hlt]
      clear HJ
      generalize l[k] = t at *
      obtain ⟨C, P, D⟩ := t
      simp only at hr HN c0 c1 c2
      obtain ⟨p, rfl⟩ := Int.eq_ofNat_of_zero_le (show 0 ≤ P by omega)
      rw [Int.toNat_natCast] at HN
      have HG := Lib.hid (fun W => common_any j p W (by omega) (by omega))
      have hg : 1 ≤ Nat.gcd j p := Nat.gcd_pos_of_pos_left _ (by omega)
      have hq : j / Nat.gcd j p ≤ 4096 := Nat.le_trans (Nat.div_le_self _ _) hj4
      generalize Nat.gcd j p = g at *
      have e1 : (j : Int) / (g : Int) = ((j / g : Nat) : Int) := by rw [Int.natCast_ediv]
      generalize j / g = q at *
      have hq0 : q * p ≤ 4294967296 := Nat.le_trans (Nat.mul_le_mul hq (show p ≤ 1048576 by omega)) (by omega)
      have e2 : (q : Int) * (p : Int) = ((q * p : Nat) : Int) := by rw [← Int.natCast_mul]
      have hne : ¬ (g : Int) = 0 := by omega
      generalize q * p = r at *
      clear hj
      by_cases hmr : m < r
      · have hmr' : (m : Int) < (r : Int) := by omega
        go_wp2_with (go_at_call 23; (with_reducible refine (HG.out _).mono ?_); rintro e w2 ⟨rfl, rfl⟩)
        go_ret2
        refine ⟨?_, rfl⟩
        have := HN.out
        rw [if_pos hmr] at this
        rw [hyp_none this (by omega)]
        rfl
      · have hmr' : ¬ (m : Int) < (r : Int) := by omega
        have HN2 : Hid (hypM l m (k + 1) = some r) := by have := HN.out; rw [if_neg hmr] at this; exact this
        go_wp2_with (go_at_call 23; (with_reducible refine (HG.out _).mono ?_); rintro e w2 ⟨rfl, rfl⟩)
        go_round
        case rel => exact ⟨k + 1, r, by omega, by go_num, rfl, by omega, HN2⟩
        case measure => simp [intOf]; omega
    · obtain rfl : k = l.length := by omega
      go_wp2
      go_ret2
      exact ⟨by rw [HJ.out]; rfl, rfl⟩
end Go.Proofs.Ytkhbnklaglnfdaa
