/- Walk: the statement CallParses. -/
import Derived.Test.YtjojnfnjekjjnaaW7
namespace Go.Proofs.Ytjojnfnjekjjnaa
open Go.RowKit

set_option maxRecDepth 100000 in
set_option maxHeartbeats 4000000 in
theorem parses_yes (x n0 n1 n2 n3 n4 : Nat) (w : World) (hx : x < 18446744073709551616) (hP : partsL.map (getF · (x : Int)) = [(n0 : Int), (n1 : Int), (n2 : Int), (n3 : Int), (n4 : Int)]) (hs : n0 < 1000000000 ∧ n1 < 1000000000 ∧ n2 < 1000000000 ∧ n3 < 1000000000 ∧ n4 < 1000000000)
    (e0 : n0 = x % 256) (e1 : n1 = x / 256 % 256) (e2 : n2 = x / 65536 % 256) (e3 : n3 = x / 16777216 % 1048576) (e4 : n4 = x / 17592186044416) (h : rightC n0 n1 n2 n3 n4 = true) (hw : wordI n0 n1 n2 n3 n4 = x) :
    Calls Try.prog 3 #[.int .u64 x] w fun e w' => e = .returned (.bool true) ∧ Below w.heap.size w w' := by
  have HP := Lib.hid (fun W => parse_num x n0 n1 n2 n3 n4 W hx hP hs _ h)
  have HQ := Lib.hid (fun W => refParse_num x n0 n1 n2 n3 n4 W hx e0 e1 e2 e3 e4 _ h)
  have HT : Hid (∀ W : World, Calls Try.prog 6 #[.agg #[.int .i64 n0, .int .i64 n1, .int .i64 n2, .int .i64 n3, .int .i64 n4]] W fun e w' => e = .returned (.agg #[.int .i64 n0, .int .i64 n1, .int .i64 n2, .int .i64 n3, .int .i64 n4]) ∧ Below W.heap.size W w') := fun W => to_any _ _ _ _ _ W
  have HW : Hid (∀ W : World, Calls Try.prog 7 #[.agg #[.int .i64 n0, .int .i64 n1, .int .i64 n2, .int .i64 n3, .int .i64 n4]] W fun e w' => e = .returned (.tuple #[.int .u64 x, .int .i64 0]) ∧ Below W.heap.size W w') := fun W => by rw [← hw]; exact word_yes n0 n1 n2 n3 n4 W h
  simp only [if_true, Bool.false_eq_true, if_false] at HP HQ
  clear e0 e1 e2 e3 e4 h hs hP hw
  go_enter Try.func3, Try.ntmps3
  go_wp2_with fail
  refine (HP.out _).mono ?_
  rintro e w1 ⟨rfl, hB⟩
  go_wp2_with fail
  have bk := Blk.new w1 24 #[.int .i64 n0, .int .i64 n1, .int .i64 n2, .int .i64 n3, .int .i64 n4]
  replace hB := hB.alloc hB.size (Obj.cells #[.int .i64 n0, .int .i64 n1, .int .i64 n2, .int .i64 n3, .int .i64 n4] 24)
  generalize w1.alloc (Obj.cells #[.int .i64 n0, .int .i64 n1, .int .i64 n2, .int .i64 n3, .int .i64 n4] 24) = w2 at *
  generalize w1.heap.size = g at *
  refine (HQ.out _).mono ?_
  rintro e w3 ⟨rfl, hb⟩
  replace bk := (bk.keep hb).alloc (Obj.cells #[.int .i64 n0, .int .i64 n1, .int .i64 n2, .int .i64 n3, .int .i64 n4] 30)
  replace hB := bstep hB (Nat.le_refl _) hb
  replace hB := hB.alloc hB.size (Obj.cells #[.int .i64 n0, .int .i64 n1, .int .i64 n2, .int .i64 n3, .int .i64 n4] 30)
  clear hb
  go_wp2_with fail
  have bk2 := Blk.new w3 30 #[.int .i64 n0, .int .i64 n1, .int .i64 n2, .int .i64 n3, .int .i64 n4]
  generalize w3.alloc (Obj.cells #[.int .i64 n0, .int .i64 n1, .int .i64 n2, .int .i64 n3, .int .i64 n4] 30) = w4 at *
  generalize w3.heap.size = g2 at *
  have c0 := bk.cell 0 (.int .i64 n0) rfl
  have c1 := bk.cell 1 (.int .i64 n1) rfl
  have c2 := bk.cell 2 (.int .i64 n2) rfl
  have c3 := bk.cell 3 (.int .i64 n3) rfl
  have c4 := bk.cell 4 (.int .i64 n4) rfl
  have d0 := bk2.cell 0 (.int .i64 n0) rfl
  have d1 := bk2.cell 1 (.int .i64 n1) rfl
  have d2 := bk2.cell 2 (.int .i64 n2) rfl
  have d3 := bk2.cell 3 (.int .i64 n3) rfl
  have d4 := bk2.cell 4 (.int .i64 n4) rfl
  (have aft_c0 := Aft.cell c0; have aft_c1 := Aft.cell c1; have aft_c2 := Aft.cell c2; have aft_c3 := Aft.cell c3; have aft_c4 := Aft.cell c4; have aft_d0 := Aft.cell d0; have aft_d1 := Aft.cell d1; have aft_d2 := Aft.cell d2; have aft_d3 := Aft.cell d3; have aft_d4 := Aft.cell d4; refine wp_region_aft (by kernel_rfl) (by kernel_rfl) ?_; (repeat (go_big_quiet_step ((go_at_call 6; with_reducible exact aft_call (HT.out _))))); refine wpQuiet_nil ?_; clear aft_c0 aft_c1 aft_c2 aft_c3 aft_c4 aft_d0 aft_d1 aft_d2 aft_d3 aft_d4; intro w5 hw2_; have hb := Aft.below hw2_; clear hw2_)
  replace hB := bstep hB (Nat.le_refl _) hb
  replace bk := bk.keep hb
  clear hb c0 c1 c2 c3 c4 d0 d1 d2 d3 d4
  have c0 := bk.cell 0 (.int .i64 n0) rfl
  have c1 := bk.cell 1 (.int .i64 n1) rfl
  have c2 := bk.cell 2 (.int .i64 n2) rfl
  have c3 := bk.cell 3 (.int .i64 n3) rfl
  have c4 := bk.cell 4 (.int .i64 n4) rfl
  go_wp2_with fail
  refine (HW.out _).mono ?_
  rintro e w6 ⟨rfl, hb⟩
  replace hB := bstep hB (Nat.le_refl _) hb
  clear hb c0 c1 c2 c3 c4
  go_wp2_with fail
  refine (awake_any _).mono ?_
  rintro e w7 ⟨rfl, hb⟩
  go_wp2_with fail
  go_ret
  exact ⟨rfl, bstep hB (Nat.le_refl _) hb⟩

set_option maxRecDepth 100000 in
set_option maxHeartbeats 4000000 in
theorem parses_no (x n0 n1 n2 n3 n4 : Nat) (w : World) (hx : x < 18446744073709551616) (hP : partsL.map (getF · (x : Int)) = [(n0 : Int), (n1 : Int), (n2 : Int), (n3 : Int), (n4 : Int)]) (hs : n0 < 1000000000 ∧ n1 < 1000000000 ∧ n2 < 1000000000 ∧ n3 < 1000000000 ∧ n4 < 1000000000)
    (e0 : n0 = x % 256) (e1 : n1 = x / 256 % 256) (e2 : n2 = x / 65536 % 256) (e3 : n3 = x / 16777216 % 1048576) (e4 : n4 = x / 17592186044416) (h : rightC n0 n1 n2 n3 n4 = false) :
    Calls Try.prog 3 #[.int .u64 x] w fun e w' => e = .returned (.bool true) ∧ Below w.heap.size w w' := by
  have HP := Lib.hid (fun W => parse_num x n0 n1 n2 n3 n4 W hx hP hs _ h)
  have HQ := Lib.hid (fun W => refParse_num x n0 n1 n2 n3 n4 W hx e0 e1 e2 e3 e4 _ h)
  have HT : Hid (∀ W : World, Calls Try.prog 6 #[.agg #[.int .i64 0, .int .i64 0, .int .i64 0, .int .i64 0, .int .i64 0]] W fun e w' => e = .returned (.agg #[.int .i64 0, .int .i64 0, .int .i64 0, .int .i64 0, .int .i64 0]) ∧ Below W.heap.size W w') := fun W => to_any _ _ _ _ _ W
  have HW : Hid (∀ W : World, Calls Try.prog 7 #[.agg #[.int .i64 0, .int .i64 0, .int .i64 0, .int .i64 0, .int .i64 0]] W fun e w' => e = .returned (.tuple #[.int .u64 0, .int .i64 0]) ∧ Below W.heap.size W w') := fun W => by exact word_yes 0 0 0 0 0 W (by decide +kernel)
  simp only [if_true, Bool.false_eq_true, if_false] at HP HQ
  clear e0 e1 e2 e3 e4 h hs hP
  go_enter Try.func3, Try.ntmps3
  go_wp2_with fail
  refine (HP.out _).mono ?_
  rintro e w1 ⟨rfl, hB⟩
  go_wp2_with fail
  have bk := Blk.new w1 24 #[.int .i64 0, .int .i64 0, .int .i64 0, .int .i64 0, .int .i64 0]
  replace hB := hB.alloc hB.size (Obj.cells #[.int .i64 0, .int .i64 0, .int .i64 0, .int .i64 0, .int .i64 0] 24)
  generalize w1.alloc (Obj.cells #[.int .i64 0, .int .i64 0, .int .i64 0, .int .i64 0, .int .i64 0] 24) = w2 at *
  generalize w1.heap.size = g at *
  refine (HQ.out _).mono ?_
  rintro e w3 ⟨rfl, hb⟩
  replace bk := (bk.keep hb).alloc (Obj.cells #[.int .i64 0, .int .i64 0, .int .i64 0, .int .i64 0, .int .i64 0] 30)
  replace hB := bstep hB (Nat.le_refl _) hb
  replace hB := hB.alloc hB.size (Obj.cells #[.int .i64 0, .int .i64 0, .int .i64 0, .int .i64 0, .int .i64 0] 30)
  clear hb
  go_wp2_with fail
  have bk2 := Blk.new w3 30 #[.int .i64 0, .int .i64 0, .int .i64 0, .int .i64 0, .int .i64 0]
  generalize w3.alloc (Obj.cells #[.int .i64 0, .int .i64 0, .int .i64 0, .int .i64 0, .int .i64 0] 30) = w4 at *
  generalize w3.heap.size = g2 at *
  have c0 := bk.cell 0 (.int .i64 0) rfl
  have c1 := bk.cell 1 (.int .i64 0) rfl
  have c2 := bk.cell 2 (.int .i64 0) rfl
  have c3 := bk.cell 3 (.int .i64 0) rfl
  have c4 := bk.cell 4 (.int .i64 0) rfl
  have d0 := bk2.cell 0 (.int .i64 0) rfl
  have d1 := bk2.cell 1 (.int .i64 0) rfl
  have d2 := bk2.cell 2 (.int .i64 0) rfl
  have d3 := bk2.cell 3 (.int .i64 0) rfl
  have d4 := bk2.cell 4 (.int .i64 0) rfl
  (have aft_c0 := Aft.cell c0; have aft_c1 := Aft.cell c1; have aft_c2 := Aft.cell c2; have aft_c3 := Aft.cell c3; have aft_c4 := Aft.cell c4; have aft_d0 := Aft.cell d0; have aft_d1 := Aft.cell d1; have aft_d2 := Aft.cell d2; have aft_d3 := Aft.cell d3; have aft_d4 := Aft.cell d4; refine wp_region_aft (by kernel_rfl) (by kernel_rfl) ?_; (repeat (go_big_quiet_step ((go_at_call 6; with_reducible exact aft_call (HT.out _))))); refine wpQuiet_nil ?_; clear aft_c0 aft_c1 aft_c2 aft_c3 aft_c4 aft_d0 aft_d1 aft_d2 aft_d3 aft_d4; intro w5 hw2_; have hb := Aft.below hw2_; clear hw2_)
  replace hB := bstep hB (Nat.le_refl _) hb
  replace bk := bk.keep hb
  clear hb c0 c1 c2 c3 c4 d0 d1 d2 d3 d4
  have c0 := bk.cell 0 (.int .i64 0) rfl
  have c1 := bk.cell 1 (.int .i64 0) rfl
  have c2 := bk.cell 2 (.int .i64 0) rfl
  have c3 := bk.cell 3 (.int .i64 0) rfl
  have c4 := bk.cell 4 (.int .i64 0) rfl
  go_wp2_with fail
  refine (HW.out _).mono ?_
  rintro e w6 ⟨rfl, hb⟩
  replace hB := bstep hB (Nat.le_refl _) hb
  clear hb c0 c1 c2 c3 c4
  go_wp2_with fail
  refine (awake_any _).mono ?_
  rintro e w7 ⟨rfl, hb⟩
  go_wp2_with fail
  go_ret
  exact ⟨rfl, bstep hB (Nat.le_refl _) hb⟩

theorem parses_any (x : Int) (w : World) (h0 : 0 ≤ x) (h1 : x < 18446744073709551616) : Calls Try.prog 3 #[.int .u64 x] w fun e w' => e = .returned (.bool true) ∧ Below w.heap.size w w' := by
  obtain ⟨n, rfl⟩ := Int.eq_ofNat_of_zero_le h0
  have hn : n < 18446744073709551616 := by omega
  cases hq : rightC ((n % 256 : Nat) : Int) ((n / 256 % 256 : Nat) : Int) ((n / 65536 % 256 : Nat) : Int) ((n / 16777216 % 1048576 : Nat) : Int) ((n / 17592186044416 : Nat) : Int)
  · exact parses_no n _ _ _ _ _ w hn (get_parts n hn) (by omega) rfl rfl rfl rfl rfl hq
  · exact parses_yes n _ _ _ _ _ w hn (get_parts n hn) (by omega) rfl rfl rfl rfl rfl hq (word_parts n hn)
end Go.Proofs.Ytjojnfnjekjjnaa
