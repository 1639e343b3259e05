/- Walks: the call of a word, by the document; the example. -/
import Derived.Test.YtjojnfnjekjjnaaW6
namespace Go.Proofs.Ytjojnfnjekjjnaa
open Go.RowKit

theorem to_any (n0 n1 n2 n3 n4 : Int) (w : World) : Calls Try.prog 6 #[.agg #[.int .i64 n0, .int .i64 n1, .int .i64 n2, .int .i64 n3, .int .i64 n4]] w fun e w' => e = .returned (.agg #[.int .i64 n0, .int .i64 n1, .int .i64 n2, .int .i64 n3, .int .i64 n4]) ∧ Below w.heap.size w w' := by
  go_enter Try.func6, Try.ntmps6
  go_wp2
  exact bodyPost_ret (v := .agg #[.int .i64 n0, .int .i64 n1, .int .i64 n2, .int .i64 n3, .int .i64 n4]) (by simp [results, Try.results6, go_sem, *]) rfl ⟨rfl, (below1 _ _).alloc (by simp) _⟩

set_option maxRecDepth 100000 in
set_option maxHeartbeats 4000000 in
theorem refParse_num (x n0 n1 n2 n3 n4 : Nat) (w : World) (hx : x < 18446744073709551616)
    (e0 : n0 = x % 256) (e1 : n1 = x / 256 % 256) (e2 : n2 = x / 65536 % 256) (e3 : n3 = x / 16777216 % 1048576) (e4 : n4 = x / 17592186044416) (q : Bool) (hq : rightC n0 n1 n2 n3 n4 = q) :
    Calls Try.prog 5 #[.int .u64 x] w fun e w' => e = .returned (if q then .tuple #[.agg #[.int .i64 n0, .int .i64 n1, .int .i64 n2, .int .i64 n3, .int .i64 n4], .bool true] else .tuple #[.agg #[.int .i64 0, .int .i64 0, .int .i64 0, .int .i64 0, .int .i64 0], .bool false]) ∧ Below w.heap.size w w' := by
  have HR := Lib.hid (fun W => refRight_any n0 n1 n2 n3 n4 W)
  rw [hq] at HR
  have E0 : Hid ((x : Int) % 256 = (n0 : Int)) := by unfold Hid; omega
  have E1 : Hid ((x : Int) / 256 % 256 = (n1 : Int)) := by unfold Hid; omega
  have E2 : Hid ((x : Int) / 65536 % 256 = (n2 : Int)) := by unfold Hid; omega
  have E3 : Hid ((x : Int) / 16777216 % 1048576 = (n3 : Int)) := by unfold Hid; omega
  have E4 : Hid ((x : Int) / 17592186044416 = (n4 : Int)) := by unfold Hid; omega
  clear e0 e1 e2 e3 e4
  have hB := (below1 w (Obj.cells #[.int .i64 0, .int .i64 0, .int .i64 0, .int .i64 0, .int .i64 0] 30)).alloc (by simp) (Obj.cells #[.int .i64 n0, .int .i64 n1, .int .i64 n2, .int .i64 n3, .int .i64 n4] 30)
  have bk := (Blk.new w 30 #[.int .i64 0, .int .i64 0, .int .i64 0, .int .i64 0, .int .i64 0]).alloc (Obj.cells #[.int .i64 n0, .int .i64 n1, .int .i64 n2, .int .i64 n3, .int .i64 n4] 30)
  have bk2 := Blk.new' (w.alloc (Obj.cells #[.int .i64 0, .int .i64 0, .int .i64 0, .int .i64 0, .int .i64 0] 30)) 30 #[.int .i64 n0, .int .i64 n1, .int .i64 n2, .int .i64 n3, .int .i64 n4] (g := w.heap.size + 1) (by simp)
  go_enter Try.func5, Try.ntmps5
  go_wp2_with fail
  simp only [E0.out, E1.out, E2.out, E3.out, E4.out]
  generalize (w.alloc (Obj.cells #[.int .i64 0, .int .i64 0, .int .i64 0, .int .i64 0, .int .i64 0] 30)).alloc (Obj.cells #[.int .i64 n0, .int .i64 n1, .int .i64 n2, .int .i64 n3, .int .i64 n4] 30) = wa at *
  refine (HR.out _).mono ?_
  rintro e w4 ⟨rfl, hb⟩
  replace bk := bk.keep hb
  replace bk2 := bk2.keep hb
  replace hB := bstep hB (by simp) hb
  clear hb
  have hlt := bk.lt
  have y0 := bk2.cell 0 (.int .i64 n0) rfl
  have y1 := bk2.cell 1 (.int .i64 n1) rfl
  have y2 := bk2.cell 2 (.int .i64 n2) rfl
  have y3 := bk2.cell 3 (.int .i64 n3) rfl
  have y4 := bk2.cell 4 (.int .i64 n4) rfl
  have z0 := bk.cell 0 (.int .i64 0) rfl
  have z1 := bk.cell 1 (.int .i64 0) rfl
  have z2 := bk.cell 2 (.int .i64 0) rfl
  have z3 := bk.cell 3 (.int .i64 0) rfl
  have z4 := bk.cell 4 (.int .i64 0) rfl
  have f0 := bk.frozen 0
  have f1 := bk.frozen 1
  have f2 := bk.frozen 2
  have f3 := bk.frozen 3
  have f4 := bk.frozen 4
  cases q
  · go_wp2
    have hX := hB.grown (only_set5 w4 w.heap.size (.int .i64 0) (.int .i64 0) (.int .i64 0) (.int .i64 0) (.int .i64 0)) hB.size (fun k hk => by injection hk with hk; omega)
    exact bodyPost_ret (v := .tuple #[.agg #[.int .i64 0, .int .i64 0, .int .i64 0, .int .i64 0, .int .i64 0], .bool false]) (by simp [results, Try.results5, go_sem, *]) rfl ⟨rfl, hX⟩
  · go_wp2
    have hX := hB.grown (only_set5 w4 w.heap.size (.int .i64 n0) (.int .i64 n1) (.int .i64 n2) (.int .i64 n3) (.int .i64 n4)) hB.size (fun k hk => by injection hk with hk; omega)
    exact bodyPost_ret (v := .tuple #[.agg #[.int .i64 n0, .int .i64 n1, .int .i64 n2, .int .i64 n3, .int .i64 n4], .bool true]) (by simp [results, Try.results5, go_sem, *]) rfl ⟨rfl, hX⟩

theorem awake_any (w : World) : Calls Try.prog 8 #[] w fun e w' => e = .returned (.bool true) ∧ Below w.heap.size w w' := by
  have HW : Hid (∀ W : World, Calls Try.prog 7 #[.agg #[.int .i64 2, .int .i64 3, .int .i64 0, .int .i64 0, .int .i64 0]] W fun e w' => e = .returned (.tuple #[.int .u64 770, .int .i64 0]) ∧ Below W.heap.size W w') := fun W => word_yes 2 3 0 0 0 W (by decide +kernel)
  go_enter Try.func8, Try.ntmps8
  go_wp2_with fail
  refine (HW.out _).mono ?_
  rintro e w2 ⟨rfl, hb⟩
  go_wp2
  go_ret
  exact ⟨rfl, hb⟩
end Go.Proofs.Ytjojnfnjekjjnaa
