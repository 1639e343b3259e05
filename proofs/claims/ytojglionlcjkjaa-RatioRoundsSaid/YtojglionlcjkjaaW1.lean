/- Walks: the greatest common divisor, products, fractions. -/
import Derived.Test.YtojglionlcjkjaaM1
import Derived.Test.YtojglionlcjkjaaAft
import Derived.Test.YtojglionlcjkjaaBlk
import Derived.Deep.LoopGhost
import Derived.IntWalk
import Derived.Laws.Bits64b
import Derived.Laws.Externs
namespace Go.Proofs.Ytojglionlcjkjaa
open Go.RowKit

set_option maxHeartbeats 1000000 in
theorem divisor_any (a b : Nat) (w : World) (ha : a < 18446744073709551616) (hb : b < 18446744073709551616) :
    Calls Try.prog 23 #[.int .u64 a, .int .u64 b] w fun e w' => e = .returned (.int .u64 (Nat.gcd a b : Nat)) ∧ Below w.heap.size w w' := by
  go_enter Try.func23, Try.ntmps23
  go_wp2
  go_loopw [0, 1] (fun va vb wr => ∃ (x y : Nat), va = .int .u64 x ∧ vb = .int .u64 y ∧ x < 18446744073709551616 ∧ y < 18446744073709551616 ∧ Hid (Nat.gcd x y = Nat.gcd a b) ∧ Below w.heap.size w wr) (fun _ b _ => (intOf b).toNat)
  case atStart => exact ⟨a, b, rfl, rfl, ha, hb, rfl, Below.refl _ _⟩
  case round =>
    obtain ⟨x, y, rfl, rfl, hx, hy, HG, hB⟩ := hrel
    by_cases h0 : y = 0
    · subst h0
      go_wp2
      go_ret
      refine ⟨ret_int ?_, hB⟩
      rw [← HG.out, Nat.gcd_zero_right]
    · have h1 : ((y : Int) != 0) = true := by simp; omega
      have h2 : ¬ (y : Int) = 0 := by omega
      go_wp2
      go_quiet (fail)
      go_wp2
      go_roundw
      case rel => exact ⟨y, x % y, rfl, by rw [Int.natCast_emod], hy, Nat.lt_trans (Nat.mod_lt _ (by omega)) hy, (gcd_step x y).trans HG.out, bdrewN hB _⟩
      case measure => simp [intOf]; rw [← Int.natCast_emod]; have := Nat.mod_lt x (show 0 < y by omega); omega

namespace Mul64
theorem maskN (a : Nat) (ha : a < 18446744073709551616) : bits .and .u64 (a : Int) 4294967295 = ((a % 4294967296 : Nat) : Int) := by
  have h := bits_and_u64_nat a 4294967295 ha (by omega)
  have e : a &&& 4294967295 = a % 4294967296 := Nat.and_two_pow_sub_one_eq_mod a 32
  rw [e] at h
  exact h
theorem divN (a : Nat) : (a : Int) / 4294967296 = ((a / 4294967296 : Nat) : Int) := by omega
theorem mulN (a b : Nat) : (a : Int) * (b : Int) = ((a * b : Nat) : Int) := (Int.natCast_mul a b).symm
theorem addN (a b : Nat) : (a : Int) + (b : Int) = ((a + b : Nat) : Int) := (Int.natCast_add a b).symm
theorem wrapN (a : Nat) (ha : a < 18446744073709551616) : IntKind.u64.wrap (a : Int) = (a : Int) := by rw [IntKind.wrap_u64]; omega
theorem wrapM (a : Nat) : IntKind.u64.wrap (a : Int) = ((a % 18446744073709551616 : Nat) : Int) := by rw [IntKind.wrap_u64]; omega
end Mul64

set_option maxHeartbeats 1000000 in
theorem mul64_any (x y : Nat) (w : World) (hx : x < 18446744073709551616) (hy : y < 18446744073709551616) :
    Calls Try.prog 30 #[.int .u64 x, .int .u64 y] w fun e w' => e = .returned (.tuple #[.int .u64 ((x * y / 18446744073709551616 : Nat) : Int), .int .u64 ((x * y % 18446744073709551616 : Nat) : Int)]) ∧ w = w' := by
  obtain ⟨bd, bt, bw, hhi⟩ := Lib.mul64_hi x y hx hy
  have ba := Lib.half_mul_le (a := x / 4294967296) (b := y / 4294967296) (by omega) (by omega)
  have bb := Lib.half_mul_le (a := x / 4294967296) (b := y % 4294967296) (by omega) (by omega)
  have bc := Lib.half_mul_le (a := x % 4294967296) (b := y / 4294967296) (by omega) (by omega)
  have ba' : x / 4294967296 * (y / 4294967296) < 18446744073709551616 := by omega
  have bb' : x / 4294967296 * (y % 4294967296) < 18446744073709551616 := by omega
  have bc' : x % 4294967296 * (y / 4294967296) < 18446744073709551616 := by omega
  have bh1 : x / 4294967296 * (y / 4294967296) + (x / 4294967296 * (y % 4294967296) + x % 4294967296 * (y % 4294967296) / 4294967296) / 4294967296 < 18446744073709551616 := by omega
  have bh : x / 4294967296 * (y / 4294967296) + (x / 4294967296 * (y % 4294967296) + x % 4294967296 * (y % 4294967296) / 4294967296) / 4294967296 + ((x / 4294967296 * (y % 4294967296) + x % 4294967296 * (y % 4294967296) / 4294967296) % 4294967296 + x % 4294967296 * (y / 4294967296)) / 4294967296 < 18446744073709551616 := by omega
  go_enter Try.func30, Try.ntmps30
  go_wp2
  simp only [Mul64.maskN x hx, Mul64.maskN y hy, Mul64.divN, Mul64.mulN, Mul64.addN, Mul64.wrapN _ bd, Mul64.wrapN _ bb', Mul64.wrapN _ bt, Mul64.maskN _ bt, Mul64.wrapN _ bc', Mul64.wrapN _ bw, Mul64.wrapN _ ba', Mul64.wrapN _ bh1, Mul64.wrapN _ bh, Mul64.wrapM (x * y)]
  rw [hhi]
  go_ret2
  exact ⟨rfl, rfl⟩

/-- times, of a product that is a word, and of one that isn't -/
theorem times_yes (x y : Nat) (w : World) (hx : x < 18446744073709551616) (hy : y < 18446744073709551616) (h : x * y < 18446744073709551616) :
    Calls Try.prog 24 #[.int .u64 x, .int .u64 y] w fun e w' => e = .returned (.tuple #[.int .u64 ((x * y : Nat) : Int), .bool true]) ∧ w = w' := by
  have hm := Lib.hid (mul64_any x y w hx hy)
  rw [Nat.div_eq_of_lt h, Nat.mod_eq_of_lt h] at hm
  generalize x * y = p at *
  go_enter Try.func24, Try.ntmps24
  go_wp2_with (go_at_call 30; (with_reducible refine hm.out.mono ?_); rintro e w2 ⟨rfl, rfl⟩)
  go_ret2
  exact ⟨rfl, rfl⟩
theorem times_no (x y : Nat) (w : World) (hx : x < 18446744073709551616) (hy : y < 18446744073709551616) (h : ¬ x * y < 18446744073709551616) :
    Calls Try.prog 24 #[.int .u64 x, .int .u64 y] w fun e w' => e = .returned (.tuple #[.int .u64 0, .bool false]) ∧ w = w' := by
  have hm := Lib.hid (mul64_any x y w hx hy)
  have hd : 0 < x * y / 18446744073709551616 := Nat.div_pos (by omega) (by omega)
  generalize x * y / 18446744073709551616 = p at *
  generalize x * y % 18446744073709551616 = q at *
  have h1 : ((p : Int) != 0) = true := by simp; omega
  go_enter Try.func24, Try.ntmps24
  go_wp2_with (go_at_call 30; (with_reducible refine hm.out.mono ?_); rintro e w2 ⟨rfl, rfl⟩)
  go_ret2
  exact ⟨rfl, rfl⟩

theorem div_wrap (n g : Nat) (h : n < 18446744073709551616) : IntKind.u64.wrap ((n : Int) / (g : Int)) = (n : Int) / (g : Int) := by
  rw [← Int.natCast_ediv, IntKind.wrap_u64]
  have := Nat.div_le_self n g
  generalize n / g = q at *
  omega
theorem gcd_lt {a b : Nat} (ha : a < 18446744073709551616) (hb : b < 18446744073709551616) (h : 0 < b) : 0 < Nat.gcd a b ∧ Nat.gcd a b < 18446744073709551616 :=
  ⟨Nat.gcd_pos_of_pos_right a h, Nat.lt_of_le_of_lt (Nat.gcd_le_right a h) hb⟩

theorem of_no (n : Nat) (w : World) :
    Calls Try.prog 12 #[.int .u64 n, .int .u64 0] w fun e w' => e = .returned (.tuple #[.agg #[.int .u64 0, .int .u64 0], .int .i64 1]) ∧ Below w.heap.size w w' := by
  go_enter Try.func12, Try.ntmps12
  go_wp2
  exact bodyPost_ret (v := .tuple #[.agg #[.int .u64 0, .int .u64 0], .int .i64 1]) (by simp [results, Try.results12, go_sem]) rfl ⟨rfl, below1 _ _⟩

set_option maxHeartbeats 1000000 in
theorem of_any (n d : Nat) (w : World) (hn : n < 18446744073709551616) (hd : d < 18446744073709551616) (h : 0 < d) :
    Calls Try.prog 12 #[.int .u64 n, .int .u64 d] w fun e w' => e = .returned (r3V (makeR n d)) ∧ Below w.heap.size w w' := by
  obtain ⟨g0, g1⟩ := gcd_lt hn hd h
  have HV : Hid (r3V (makeR n d) = .tuple #[.agg #[.int .u64 ((n : Int) / (Nat.gcd n d : Nat)), .int .u64 ((d : Int) / (Nat.gcd n d : Nat))], .int .i64 0]) := by
    simp [Hid, r3V, makeR, Int.natCast_ediv]
  have hg := Lib.hid (fun W => divisor_any n d W hn hd)
  generalize Nat.gcd n d = g at *
  have h1 : ((d : Int) == 0) = false := by simp; omega
  have h2 : ¬ (g : Int) = 0 := by omega
  go_enter Try.func12, Try.ntmps12
  go_wp2_with (go_at_call 23; (with_reducible refine (hg.out _).mono ?_); rintro e w2 ⟨rfl, hb⟩)
  have hbk : Blk w2 w.heap.size 25 #[.int .u64 0, .int .u64 0] := (Blk.new _ _ _).keep hb
  have c0 := hbk.cell 0 _ rfl
  have c1 := hbk.cell 1 _ rfl
  have f0 := hbk.frozen 0
  have f1 := hbk.frozen 1
  have hB := bstep (below1 w (Obj.cells #[.int .u64 0, .int .u64 0] 25)) (Nat.le_refl _) hb
  clear hb
  have e1 := div_wrap n g hn
  have e2 := div_wrap d g hd
  go_region
  go_wp2
  have hbk2 := ((hbk.set_ 0 (.int .u64 ((n : Int) / g))).set_ 1 (.int .u64 ((d : Int) / g))).drew
  simp only [List.setIfInBounds_toArray, List.set_cons_zero, List.set_cons_succ] at hbk2
  have d0 := hbk2.cell 0 _ rfl
  have d1 := hbk2.cell 1 _ rfl
  exact bodyPost_ret (v := .tuple #[.agg #[.int .u64 ((n : Int) / g), .int .u64 ((d : Int) / g)], .int .i64 0]) (by simp [results, Try.results12, go_sem, d0, d1]) rfl ⟨by rw [HV.out], ((hB.setCell (by simp) _).setCell (by simp) _).drew⟩

set_option maxHeartbeats 1000000 in
theorem right_any (n d : Nat) (w : World) (hn : n < 18446744073709551616) (hd : d < 18446744073709551616) :
    Calls Try.prog 14 #[.agg #[.int .u64 n, .int .u64 d]] w fun e w' => e = .returned (.bool (rightR n d)) ∧ Below w.heap.size w w' := by
  by_cases h : 0 < d
  · have HR := Lib.hid (rightR_g (n := n) h)
    have hg := Lib.hid (fun W => divisor_any n d W hn hd)
    generalize rightR n d = r at *
    generalize Nat.gcd n d = g at *
    have h1 : (0 : Int) < (d : Int) := by omega
    go_enter Try.func14, Try.ntmps14
    go_wp2_with (go_at_call 23; (with_reducible refine (hg.out _).mono ?_); rintro e w2 ⟨rfl, hb⟩)
    go_ret
    refine ⟨ret_bool ?_, bstep (below1 _ _) (Nat.le_refl _) hb⟩
    rw [HR.out, Bool.eq_iff_iff]
    simp
    omega
  · obtain rfl : d = 0 := by omega
    go_enter Try.func14, Try.ntmps14
    go_wp2
    go_ret
    exact ⟨ret_bool (rightR_f0 h).symm, below1 _ _⟩

theorem add64_run (x y : Nat) (w : World) (hx : x < 18446744073709551616) (hy : y < 18446744073709551616) :
    (callFunc 25 #[.int .u64 x, .int .u64 y, .int .u64 0]).run Try.prog w =
      .ok (.value (.tuple #[.int .u64 (((x + y) % 18446744073709551616 : Nat) : Int), .int .u64 (((x + y) / 18446744073709551616 : Nat) : Int)])) w := by
  rw [run_callFunc_extern Try.func25 (by kernel_rfl) (by kernel_rfl) (by kernel_rfl) (e := add64Entry) (by kernel_rfl), run_add64 x y 0 (by omega) (by omega) (by omega) (by omega)]
  simp only [Result.andThen]
  congr 5 <;> omega
end Go.Proofs.Ytojglionlcjkjaa
