/- Walks: the document's greatest common divisor, fractions, their sum. -/
import Derived.Test.YtojglionlcjkjaaW4
import Derived.Deep.DeepCutAuto
import Derived.Deep.CutBlock
namespace Go.Proofs.Ytojglionlcjkjaa
open Go.RowKit

set_option maxRecDepth 100000 in
set_option maxHeartbeats 1000000 in
theorem common_any (a b : Nat) (w : World) (ha : a < 18446744073709551616) (hb : b < 18446744073709551616) :
    Calls Try.prog 26 #[.int .u64 a, .int .u64 b] w fun e w' => e = .returned (.int .u64 (Nat.gcd a b : Nat)) ∧ w = w' := by
  go_enter Try.func26, Try.ntmps26
  go_wp2
  go_loop [0, 1, 5, 6] (fun va vb vi _ => ∃ (k x y : Nat), k ≤ 200 ∧ vi = .int .i64 k ∧ va = .int .u64 x ∧ vb = .int .u64 y ∧ x < 18446744073709551616 ∧ y < 18446744073709551616 ∧ Hid (Nat.gcd x y = Nat.gcd a b) ∧ Hid (Near k x y)) (fun _ _ i _ => 200 - (intOf i).toNat)
  case atStart => exact ⟨0, a, b, by omega, rfl, rfl, rfl, ha, hb, rfl, .inl rfl⟩
  case round =>
    obtain ⟨k, x, y, hk, rfl, rfl, rfl, hx, hy, HG, HN⟩ := hrel
    by_cases h0 : y = 0
    · subst h0
      by_cases hk2 : k < 200
      all_goals
        go_wp2
        go_ret
        refine ⟨ret_int ?_, rfl⟩
        rw [← HG.out, Nat.gcd_zero_right]
    · by_cases hk2 : k < 200
      · have h2 : (0 : Int) < (y : Int) := by omega
        go_wp2
        go_round
        case rel => exact ⟨k + 1, y, x % y, by omega, by go_num, rfl, by rw [Int.natCast_emod], hy, Nat.lt_trans (Nat.mod_lt _ (by omega)) hy, (gcd_step x y).trans HG.out, near_step hx hy (by omega) HN.out⟩
        case measure => simp [intOf]; omega
      · obtain rfl : k = 200 := by omega
        exact absurd (near_end HN.out) h0

set_option maxHeartbeats 1000000 in
theorem refRight_any (n d : Nat) (w : World) (hn : n < 18446744073709551616) (hd : d < 18446744073709551616) :
    Calls Try.prog 15 #[.int .u64 n, .int .u64 d] w fun e w' => e = .returned (.bool (rightR n d)) ∧ w = w' := by
  by_cases h : 0 < d
  · have HR := Lib.hid (rightR_g (n := n) h)
    have hg := Lib.hid (fun W => common_any n d W hn hd)
    generalize rightR n d = r at *
    generalize Nat.gcd n d = g at *
    have h1 : (0 : Int) < (d : Int) := by omega
    go_enter Try.func15, Try.ntmps15
    go_wp2_with (go_at_call 26; (with_reducible refine (hg.out _).mono ?_); rintro e w2 ⟨rfl, rfl⟩)
    go_ret
    refine ⟨ret_bool ?_, rfl⟩
    rw [HR.out, Bool.eq_iff_iff]
    simp
    omega
  · obtain rfl : d = 0 := by omega
    go_enter Try.func15, Try.ntmps15
    go_wp2
    go_ret
    exact ⟨ret_bool (rightR_f0 h).symm, rfl⟩

set_option maxHeartbeats 1000000 in
theorem refMake_any (n d : Nat) (w : World) (hn : n < 18446744073709551616) (hd : d < 18446744073709551616) (h : 0 < d) :
    Calls Try.prog 13 #[.int .u64 n, .int .u64 d] w fun e w' => e = .returned (.agg #[.int .u64 ((makeR n d).num : Int), .int .u64 ((makeR n d).den : Int)]) ∧ Below w.heap.size w w' := by
  obtain ⟨g0, g1⟩ := gcd_lt hn hd h
  have HV : Hid (Value.agg #[.int .u64 ((makeR n d).num : Int), .int .u64 ((makeR n d).den : Int)] = .agg #[.int .u64 ((n : Int) / (Nat.gcd n d : Nat)), .int .u64 ((d : Int) / (Nat.gcd n d : Nat))]) := by
    simp [Hid, makeR, Int.natCast_ediv]
  have hg := Lib.hid (fun W => common_any n d W hn hd)
  generalize Nat.gcd n d = g at *
  have h2 : ¬ (g : Int) = 0 := by omega
  have bk := Blk.new w 24 #[.int .u64 0, .int .u64 0]
  have c0 := bk.cell 0 _ rfl
  have c1 := bk.cell 1 _ rfl
  have f0 := bk.frozen 0
  have f1 := bk.frozen 1
  have e1 := div_wrap n g hn
  have e2 := div_wrap d g hd
  go_enter Try.func13, Try.ntmps13
  go_wp2_with (go_at_call 26; (with_reducible refine (hg.out _).mono ?_); rintro e w2 ⟨rfl, rfl⟩)
  have hB := below1 w (Obj.cells #[.int .u64 0, .int .u64 0] 24)
  generalize w.alloc (Obj.cells #[.int .u64 0, .int .u64 0] 24) = w1 at *
  go_region
  go_wp2
  have bk2 := ((bk.set_ 0 (.int .u64 ((n : Int) / g))).set_ 1 (.int .u64 ((d : Int) / g))).drew
  simp only [List.setIfInBounds_toArray, List.set_cons_zero, List.set_cons_succ] at bk2
  have d0 := bk2.cell 0 _ rfl
  have d1 := bk2.cell 1 _ rfl
  exact bodyPost_ret (v := .agg #[.int .u64 ((n : Int) / g), .int .u64 ((d : Int) / g)]) (by simp [results, Try.results13, go_sem, d0, d1]) rfl ⟨by rw [HV.out], ((hB.setCell (by simp) _).setCell (by simp) _).drew⟩
end Go.Proofs.Ytojglionlcjkjaa
