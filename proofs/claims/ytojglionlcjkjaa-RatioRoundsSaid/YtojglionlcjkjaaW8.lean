/- Walk: which of two numbers of four digits is less. -/
import Derived.Test.YtojglionlcjkjaaW7
namespace Go.Proofs.Ytojglionlcjkjaa
open Go.RowKit

set_option maxRecDepth 100000 in
set_option maxHeartbeats 4000000 in
theorem refCompare_raw (a0 a1 a2 a3 b0 b1 b2 b3 X Y : Nat) (w : World) (ha0 : a0 < 4294967296) (ha1 : a1 < 4294967296) (ha2 : a2 < 4294967296) (ha3 : a3 < 4294967296) (hb0 : b0 < 4294967296) (hb1 : b1 < 4294967296) (hb2 : b2 < 4294967296) (hb3 : b3 < 4294967296) (hX : X = (a0 + 4294967296 * a1 + 18446744073709551616 * a2 + 79228162514264337593543950336 * a3)) (hY : Y = (b0 + 4294967296 * b1 + 18446744073709551616 * b2 + 79228162514264337593543950336 * b3)) :
    Calls Try.prog 16 #[.agg #[.int .u64 a0, .int .u64 a1, .int .u64 a2, .int .u64 a3], .agg #[.int .u64 b0, .int .u64 b1, .int .u64 b2, .int .u64 b3]] w fun e w' => e = .returned (.int .i64 (cmpI X Y)) ∧ Below w.heap.size w w' := by
  have HX := Lib.hid hX
  have HY := Lib.hid hY
  clear hX hY
  have ba : Blk ((w.alloc (Obj.cells #[.int .u64 a0, .int .u64 a1, .int .u64 a2, .int .u64 a3] 43)).alloc (Obj.cells #[.int .u64 b0, .int .u64 b1, .int .u64 b2, .int .u64 b3] 43)) w.heap.size 43 #[.int .u64 a0, .int .u64 a1, .int .u64 a2, .int .u64 a3] := (Blk.new _ _ _).alloc _
  have bb : Blk ((w.alloc (Obj.cells #[.int .u64 a0, .int .u64 a1, .int .u64 a2, .int .u64 a3] 43)).alloc (Obj.cells #[.int .u64 b0, .int .u64 b1, .int .u64 b2, .int .u64 b3] 43)) (w.heap.size + 1) 43 #[.int .u64 b0, .int .u64 b1, .int .u64 b2, .int .u64 b3] := Blk.new' _ _ _ (by simp)
  have hB : Below w.heap.size w ((w.alloc (Obj.cells #[.int .u64 a0, .int .u64 a1, .int .u64 a2, .int .u64 a3] 43)).alloc (Obj.cells #[.int .u64 b0, .int .u64 b1, .int .u64 b2, .int .u64 b3] 43)) := (below1 _ _).alloc (by simp) _
  go_enter Try.func16, Try.ntmps16
  go_wp2
  generalize ((w.alloc (Obj.cells #[.int .u64 a0, .int .u64 a1, .int .u64 a2, .int .u64 a3] 43)).alloc (Obj.cells #[.int .u64 b0, .int .u64 b1, .int .u64 b2, .int .u64 b3] 43)) = W0 at *
  refine wp_loop_rounds 5 ?_
  have ca := ba.cell 3 _ rfl
  have cb := bb.cell 3 _ rfl
  simp only [List.getElem_toArray, List.getElem_cons_zero, List.getElem_cons_succ] at ca cb
  rw [rounds_succ]
  by_cases o3 : a3 < b3
  · have HC : Hid (cmpI X Y = -1) := cmp_lt (by have := HX.out; have := HY.out; omega)
    have t1 : (a3 : Int) < (b3 : Int) := by omega
    go_wp2
    go_quiet (fail)
    go_wp2
    go_ret
    exact ⟨ret_int HC.out.symm, by repeat (first | exact hB | refine bdrewN ?_ _)⟩
  · by_cases p3 : b3 < a3
    · have HC : Hid (cmpI X Y = 1) := cmp_gt (by have := HX.out; have := HY.out; omega)
      have t1 : ¬ (a3 : Int) < (b3 : Int) := by omega
      have t2 : (b3 : Int) < (a3 : Int) := by omega
      go_wp2
      go_quiet (fail)
      go_wp2
      go_quiet (fail)
      go_wp2
      go_ret
      exact ⟨ret_int HC.out.symm, by repeat (first | exact hB | refine bdrewN ?_ _)⟩
    · obtain rfl : a3 = b3 := by omega
      clear o3 p3
      go_wp2
      go_quiet (fail)
      go_wp2
      go_quiet (fail)
      go_wp2
      clear ca cb
      have ca := ba.cell 2 _ rfl
      have cb := bb.cell 2 _ rfl
      simp only [List.getElem_toArray, List.getElem_cons_zero, List.getElem_cons_succ] at ca cb
      rw [rounds_succ]
      by_cases o2 : a2 < b2
      · have HC : Hid (cmpI X Y = -1) := cmp_lt (by have := HX.out; have := HY.out; omega)
        have t1 : (a2 : Int) < (b2 : Int) := by omega
        go_wp2
        go_quiet (fail)
        go_wp2
        go_ret
        exact ⟨ret_int HC.out.symm, by repeat (first | exact hB | refine bdrewN ?_ _)⟩
      · by_cases p2 : b2 < a2
        · have HC : Hid (cmpI X Y = 1) := cmp_gt (by have := HX.out; have := HY.out; omega)
          have t1 : ¬ (a2 : Int) < (b2 : Int) := by omega
          have t2 : (b2 : Int) < (a2 : Int) := by omega
          go_wp2
          go_quiet (fail)
          go_wp2
          go_quiet (fail)
          go_wp2
          go_ret
          exact ⟨ret_int HC.out.symm, by repeat (first | exact hB | refine bdrewN ?_ _)⟩
        · obtain rfl : a2 = b2 := by omega
          clear o2 p2
          go_wp2
          go_quiet (fail)
          go_wp2
          go_quiet (fail)
          go_wp2
          clear ca cb
          have ca := ba.cell 1 _ rfl
          have cb := bb.cell 1 _ rfl
          simp only [List.getElem_toArray, List.getElem_cons_zero, List.getElem_cons_succ] at ca cb
          rw [rounds_succ]
          by_cases o1 : a1 < b1
          · have HC : Hid (cmpI X Y = -1) := cmp_lt (by have := HX.out; have := HY.out; omega)
            have t1 : (a1 : Int) < (b1 : Int) := by omega
            go_wp2
            go_quiet (fail)
            go_wp2
            go_ret
            exact ⟨ret_int HC.out.symm, by repeat (first | exact hB | refine bdrewN ?_ _)⟩
          · by_cases p1 : b1 < a1
            · have HC : Hid (cmpI X Y = 1) := cmp_gt (by have := HX.out; have := HY.out; omega)
              have t1 : ¬ (a1 : Int) < (b1 : Int) := by omega
              have t2 : (b1 : Int) < (a1 : Int) := by omega
              go_wp2
              go_quiet (fail)
              go_wp2
              go_quiet (fail)
              go_wp2
              go_ret
              exact ⟨ret_int HC.out.symm, by repeat (first | exact hB | refine bdrewN ?_ _)⟩
            · obtain rfl : a1 = b1 := by omega
              clear o1 p1
              go_wp2
              go_quiet (fail)
              go_wp2
              go_quiet (fail)
              go_wp2
              clear ca cb
              have ca := ba.cell 0 _ rfl
              have cb := bb.cell 0 _ rfl
              simp only [List.getElem_toArray, List.getElem_cons_zero, List.getElem_cons_succ] at ca cb
              rw [rounds_succ]
              by_cases o0 : a0 < b0
              · have HC : Hid (cmpI X Y = -1) := cmp_lt (by have := HX.out; have := HY.out; omega)
                have t1 : (a0 : Int) < (b0 : Int) := by omega
                go_wp2
                go_quiet (fail)
                go_wp2
                go_ret
                exact ⟨ret_int HC.out.symm, by repeat (first | exact hB | refine bdrewN ?_ _)⟩
              · by_cases p0 : b0 < a0
                · have HC : Hid (cmpI X Y = 1) := cmp_gt (by have := HX.out; have := HY.out; omega)
                  have t1 : ¬ (a0 : Int) < (b0 : Int) := by omega
                  have t2 : (b0 : Int) < (a0 : Int) := by omega
                  go_wp2
                  go_quiet (fail)
                  go_wp2
                  go_quiet (fail)
                  go_wp2
                  go_ret
                  exact ⟨ret_int HC.out.symm, by repeat (first | exact hB | refine bdrewN ?_ _)⟩
                · obtain rfl : a0 = b0 := by omega
                  clear o0 p0
                  go_wp2
                  go_quiet (fail)
                  go_wp2
                  go_quiet (fail)
                  go_wp2
                  clear ca cb
                  have HC : Hid (cmpI X Y = 0) := cmp_eq (by have := HX.out; have := HY.out; omega)
                  rw [rounds_succ]
                  go_wp2
                  go_ret
                  exact ⟨ret_int HC.out.symm, by repeat (first | exact hB | refine bdrewN ?_ _)⟩

theorem refCompare_any (x y : Nat) (w : World) (hx : x < 340282366920938463463374607431768211456) (hy : y < 340282366920938463463374607431768211456) :
    Calls Try.prog 16 #[wV x, wV y] w fun e w' => e = .returned (.int .i64 (cmpI x y)) ∧ Below w.heap.size w w' :=
  refCompare_raw (x % 4294967296) (x / 4294967296 % 4294967296) (x / 18446744073709551616 % 4294967296) (x / 79228162514264337593543950336) (y % 4294967296) (y / 4294967296 % 4294967296) (y / 18446744073709551616 % 4294967296) (y / 79228162514264337593543950336) x y w
    (by omega) (by omega) (by omega) (by omega) (by omega) (by omega) (by omega) (by omega) (by omega) (by omega)
end Go.Proofs.Ytojglionlcjkjaa
