/- Walks: the greatest common divisor, and how long a round is. -/
import Derived.Test.YtkhbnklaglnfdaaM2
import Derived.Test.YtkhbnklaglnfdaaTW4
import Derived.Test.YtkhbnklaglnfdaaAft
import Derived.Test.YtkhbnklaglnfdaaBlk
namespace Go.Proofs.Ytkhbnklaglnfdaa
open Go.RowKit

theorem gcd_step (x y : Nat) : Nat.gcd y (x % y) = Nat.gcd x y := by rw [Nat.gcd_comm y, ← Nat.gcd_rec, Nat.gcd_comm]
theorem tmod_in (a b : Nat) (ha : a ≤ 9223372036854775807) : IntKind.i64.wrap ((a : Int).tmod (b : Int)) = ((a % b : Nat) : Int) := by
  rw [Int.tmod_eq_emod_of_nonneg (by omega), ← Int.natCast_emod, IntWalk.i64_in]
  have := Nat.mod_le a b
  omega
set_option maxHeartbeats 1000000 in
theorem tDivisor_any (a b : Nat) (w : World) (ha : a ≤ 9223372036854775807) (hb : b ≤ 9223372036854775807) :
    Calls Try.prog 27 #[.int .i64 a, .int .i64 b] w fun e w' => e = .returned (.int .i64 (Nat.gcd a b : Nat)) ∧ Below w.heap.size w w' := by
  go_enter Try.func27, Try.ntmps27
  go_wp2
  go_loopw [0, 1] (fun va vb wr => ∃ (x y : Nat), va = .int .i64 x ∧ vb = .int .i64 y ∧ x ≤ 9223372036854775807 ∧ y ≤ 9223372036854775807 ∧ Hid (Nat.gcd x y = Nat.gcd a b) ∧ Below w.heap.size w wr) (fun _ b _ => (intOf b).toNat)
  case atStart => exact ⟨a, b, rfl, rfl, ha, hb, rfl, Below.refl _ _⟩
  case round =>
    obtain ⟨x, y, rfl, rfl, hx, hy, HG, hB⟩ := hrel
    by_cases h0 : y = 0
    · subst h0
      go_wp2
      go_ret
      refine ⟨ret_int ?_, hB⟩
      rw [← HG.out, Nat.gcd_zero_right]
    · have h1 : ((y : Int) != 0) = true := by simp; omega
      have h2 : ¬ (y : Int) = 0 := by omega
      have h3 := tmod_in x y hx
      go_wp2
      go_quiet (fail)
      go_wp2
      go_roundw
      case rel => exact ⟨y, x % y, rfl, by first | rfl | rw [Int.natCast_emod], hy, by have := Nat.mod_le x y; omega, (gcd_step x y).trans HG.out, bdrewN hB _⟩
      case measure => simp [intOf]; first | (have := Nat.mod_lt x (show 0 < y by omega); omega) | (rw [← Int.natCast_emod]; have := Nat.mod_lt x (show 0 < y by omega); omega)

theorem hyp_no (A : Option Addr) (l : List Tk) (c : Nat) (m : Int) (w : World) (hs : Sl eT 3 w A l) (hm : l.length ≤ 9223372036854775807) (h : allT l = false) :
    Calls Try.prog 20 #[.slice A l.length c, .int .i64 m] w fun e w' => e = .returned (.tuple #[.int .i64 0, .bool false]) ∧ Below w.heap.size w w' := by
  have HA := Lib.hid (tAll_any A l c w hs hm)
  rw [h] at HA
  clear h
  go_enter Try.func20, Try.ntmps20
  go_wp2_with (go_at_call 18; (with_reducible refine HA.out.mono ?_); rintro e w2 ⟨rfl, hB⟩)
  go_ret2
  exact ⟨rfl, hB⟩
def hypT (o : Option Nat) : Value := .tuple #[.int .i64 ((o.getD 0 : Nat) : Int), .bool o.isSome]
set_option maxRecDepth 100000 in
set_option maxHeartbeats 4000000 in
theorem hyp_yes (A : Option Addr) (l : List Tk) (c : Nat) (m : Nat) (w : World) (hs : Sl eT 3 w A l) (hm : l.length ≤ 9223372036854775807) (h : allT l = true) (h1 : 1 ≤ m) (h2 : m ≤ 1048576) :
    Calls Try.prog 20 #[.slice A l.length c, .int .i64 m] w fun e w' => e = .returned (hypT (hypM l m l.length)) ∧ Below w.heap.size w w' := by
  have HA := Lib.hid (tAll_any A l c w hs hm)
  have hs8 := allT_len h
  rw [h] at HA
  have H := Lib.hid h
  clear h
  have hi1 : ¬ (m : Int) < 1 := by omega
  have hi2 : (m : Int) ≤ 1048576 := by omega
  have hi3 : (1 : Int) ≤ (m : Int) := by omega
  go_enter Try.func20, Try.ntmps20
  go_wp2_with (go_at_call 18; (with_reducible refine HA.out.mono ?_); rintro e w2 ⟨rfl, hB⟩)
  go_loopw [6, 22] (fun s i wr => ∃ (k j : Nat), k ≤ l.length ∧ i = .int .i64 k ∧ s = .int .i64 j ∧ Hid (hypM l m k = some j) ∧ Below w.heap.size w wr) (fun _ i _ => l.length - (intOf i).toNat)
  case atStart => exact ⟨0, 1, Nat.zero_le _, rfl, rfl, rfl, hB⟩
  case round =>
    clear hB
    obtain ⟨k, j, hk, rfl, rfl, HJ, hB⟩ := hrel
    by_cases hlt : k < l.length
    · obtain ⟨b, off, rfl, c0, c1, c2⟩ := (hs.keep hB).tk_at hlt
      have k0 : (0 : Int) ≤ (k : Int) := by omega
      have k1 : (k : Int) < (l.length : Int) := by omega
      have hr := allT_at H.out hlt
      have hj := hyp_pos (allT_mem H.out) h1 hk HJ.out
      have HN : Hid (hypM l m (k + 1) = if m < j * (l[k].period.toNat / Nat.gcd j l[k].period.toNat) then none else some (j * (l[k].period.toNat / Nat.gcd j l[k].period.toNat))) := by
        show _ = _
        rw [hypM, HJ.out, getD_tk hlt]
      clear HJ
      generalize l[k] = t at *
      obtain ⟨C, P, D⟩ := t
      simp only at hr HN c0 c1 c2
      obtain ⟨p, rfl⟩ := Int.eq_ofNat_of_zero_le (show 0 ≤ P by omega)
      rw [Int.toNat_natCast] at HN
      have HG := Lib.hid (fun W => tDivisor_any j p W (by omega) (by omega))
      have hg : 1 ≤ Nat.gcd j p := Nat.gcd_pos_of_pos_left _ (by omega)
      have hle := mul_gcd_le (p := p) (m := j) hj.2 (by omega)
      generalize Nat.gcd j p = g at *
      have e1 : (p : Int) / (g : Int) = ((p / g : Nat) : Int) := by rw [Int.natCast_ediv]
      have hq : p / g ≤ 1048576 := Nat.le_trans (Nat.div_le_self _ _) (by omega)
      generalize p / g = q at *
      have hq0 : j * q ≤ 1099511627776 := Nat.le_trans hle (Nat.mul_le_mul h2 (Nat.le_refl _))
      have e2 : (j : Int) * (q : Int) = ((j * q : Nat) : Int) := by rw [← Int.natCast_mul]
      have hne : ¬ (g : Int) = 0 := by omega
      generalize j * q = r at *
      have d1 := (Blk.new wr 29 #[.int .i64 C, .int .i64 (p : Int), .int .i64 D]).cell 1 (.int .i64 (p : Int)) rfl
      have hb6 := below1 wr (Obj.cells #[.int .i64 C, .int .i64 (p : Int), .int .i64 D] 29)
      by_cases hmr : m < r
      · have hmr' : (m : Int) < (r : Int) := by omega
        go_wp2_with fail
        (have aft_d1 := Aft.cell d1; refine wp_region_aft (by kernel_rfl) (by kernel_rfl) ?_; (repeat (go_big_quiet_step ((go_at_call 27; with_reducible exact aft_call (HG.out _))))); refine wpQuiet_nil ?_; clear aft_d1; intro w7 hw2_; have hb7 := Aft.below hw2_; clear hw2_)
        go_wp2_with fail
        go_ret2
        refine ⟨?_, bstep (bstep hB (Nat.le_refl _) hb6) (Nat.le_refl _) hb7⟩
        have := HN.out
        rw [if_pos hmr] at this
        rw [hyp_none this (by omega)]
        rfl
      · have hmr' : (r : Int) ≤ (m : Int) := by omega
        go_wp2_with fail
        (have aft_d1 := Aft.cell d1; refine wp_region_aft (by kernel_rfl) (by kernel_rfl) ?_; (repeat (go_big_quiet_step ((go_at_call 27; with_reducible exact aft_call (HG.out _))))); refine wpQuiet_nil ?_; clear aft_d1; intro w7 hw2_; have hb7 := Aft.below hw2_; clear hw2_)
        go_wp2_with fail
        go_roundw
        case rel => exact ⟨k + 1, r, by omega, by go_num, rfl, by have := HN.out; rw [if_neg hmr] at this; exact this, bstep (bstep hB (Nat.le_refl _) hb6) (Nat.le_refl _) hb7⟩
        case measure => simp [intOf]; omega
    · obtain rfl : k = l.length := by omega
      go_wp2_with fail
      go_ret2
      refine ⟨?_, hB⟩
      rw [HJ.out]
      rfl
end Go.Proofs.Ytkhbnklaglnfdaa
