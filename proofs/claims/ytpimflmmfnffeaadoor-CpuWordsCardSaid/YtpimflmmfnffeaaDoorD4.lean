/- Walks: names and words of instructions. -/
import Derived.Test.YtpimflmmfnffeaaDoorD3
import Derived.Test.YtpimflmmfnffeaaDoorS5
namespace Go.Proofs.YtpimflmmfnffeaaDoor
open Go.RowKit

theorem to_any (n0 n1 n2 n3 n4 : Int) (w : World) : Calls Tryd.prog 4 #[.agg #[.int .i64 n0, .int .i64 n1, .int .i64 n2, .int .i64 n3, .int .u64 n4]] w fun e w' => e = .returned (.agg #[.int .i64 n0, .int .i64 n1, .int .i64 n2, .int .i64 n3, .int .u64 n4]) ∧ Below w.heap.size w w' := by
  go_enter Tryd.func4, Tryd.ntmps4
  go_wp2
  exact bodyPost_ret (v := .agg #[.int .i64 n0, .int .i64 n1, .int .i64 n2, .int .i64 n3, .int .u64 n4]) (by simp [results, Tryd.results4, go_sem, *]) rfl ⟨rfl, (below1 _ _).alloc (by simp) _⟩
theorem name_yes (n : Nat) (w : World) (h : n ≤ 18) (c : w.cell? ⟨0, n, none⟩ = some (.string (nameS n))) : Calls Tryd.prog 10 #[.int .i64 n] w fun e w' => e = .returned (.string (nameS n)) ∧ w = w' := by
  have k0 : (0 : Int) ≤ (n : Int) := by omega
  have k1 : (n : Int) < 19 := by omega
  go_enter Tryd.func10, Tryd.ntmps10
  go_wp2
  go_ret
  exact ⟨rfl, rfl⟩
theorem name_no (op : Int) (w : World) (h : ¬ (0 ≤ op ∧ op ≤ 18)) : Calls Tryd.prog 10 #[.int .i64 op] w fun e w' => e = .returned (.string ⟨#[]⟩) ∧ w = w' := by
  by_cases h1 : op < 0
  · go_enter Tryd.func10, Tryd.ntmps10
    go_wp2
    go_ret
    exact ⟨rfl, rfl⟩
  · have h2 : 18 < op := by omega
    clear h
    go_enter Tryd.func10, Tryd.ntmps10
    go_wp2
    go_ret
    exact ⟨rfl, rfl⟩
theorem refWord_yes (n0 n1 n2 n3 n4 : Nat) (w : World) (h0 : n0 ≤ 18) (h1 : n1 ≤ 7) (h2 : n2 ≤ 7) (h3 : n3 ≤ 7) (h4 : n4 ≤ 17592186044415) : Calls Tryd.prog 13 #[.agg #[.int .i64 n0, .int .i64 n1, .int .i64 n2, .int .i64 n3, .int .u64 n4]] w fun e w' => e = .returned (.int .u64 (wordI n0 n1 n2 n3 n4)) ∧ Below w.heap.size w w' := by
  have u0 : IntKind.u64.wrap (n0 : Int) = n0 := by rw [IntKind.wrap_u64]; omega
  have u1 : IntKind.u64.wrap (n1 : Int) = n1 := by rw [IntKind.wrap_u64]; omega
  have u2 : IntKind.u64.wrap (n2 : Int) = n2 := by rw [IntKind.wrap_u64]; omega
  have u3 : IntKind.u64.wrap (n3 : Int) = n3 := by rw [IntKind.wrap_u64]; omega
  go_enter Tryd.func13, Tryd.ntmps13
  go_wp2
  go_ret
  refine ⟨ret_int ?_, below1 _ _⟩
  unfold wordI
  omega

set_option maxRecDepth 100000 in
set_option maxHeartbeats 4000000 in
theorem refDecode_num (x n0 n1 n2 n3 n4 : Nat) (w : World) (hx : x < 18446744073709551616)
    (e0 : n0 = x % 256) (e1 : n1 = x / 256 % 16) (e2 : n2 = x / 4096 % 16) (e3 : n3 = x / 65536 % 16) (e4 : n4 = x / 1048576) (q : Bool) (hq : rightI n0 n1 n2 n3 n4 = q) :
    Calls Tryd.prog 7 #[.int .u64 x] w fun e w' => e = .returned (if q then .tuple #[.agg #[.int .i64 n0, .int .i64 n1, .int .i64 n2, .int .i64 n3, .int .u64 n4], .bool true] else .tuple #[.agg #[.int .i64 0, .int .i64 0, .int .i64 0, .int .i64 0, .int .u64 0], .bool false]) ∧ Below w.heap.size w w' := by
  have HR := Lib.hid (fun W => refRight_any n0 n1 n2 n3 n4 W (by omega))
  rw [hq] at HR
  have E0 : Hid ((x : Int) % 256 = (n0 : Int)) := by unfold Hid; omega
  have E1 : Hid ((x : Int) / 256 % 16 = (n1 : Int)) := by unfold Hid; omega
  have E2 : Hid ((x : Int) / 4096 % 16 = (n2 : Int)) := by unfold Hid; omega
  have E3 : Hid ((x : Int) / 65536 % 16 = (n3 : Int)) := by unfold Hid; omega
  have E4 : Hid ((x : Int) / 1048576 = (n4 : Int)) := by unfold Hid; omega
  clear e0 e1 e2 e3 e4
  have hB := (below1 w (Obj.cells #[.int .i64 0, .int .i64 0, .int .i64 0, .int .i64 0, .int .u64 0] 24)).alloc (by simp) (Obj.cells #[.int .i64 n0, .int .i64 n1, .int .i64 n2, .int .i64 n3, .int .u64 n4] 24)
  have bk := (Blk.new w 24 #[.int .i64 0, .int .i64 0, .int .i64 0, .int .i64 0, .int .u64 0]).alloc (Obj.cells #[.int .i64 n0, .int .i64 n1, .int .i64 n2, .int .i64 n3, .int .u64 n4] 24)
  have bk2 := Blk.new' (w.alloc (Obj.cells #[.int .i64 0, .int .i64 0, .int .i64 0, .int .i64 0, .int .u64 0] 24)) 24 #[.int .i64 n0, .int .i64 n1, .int .i64 n2, .int .i64 n3, .int .u64 n4] (g := w.heap.size + 1) (by simp)
  go_enter Tryd.func7, Tryd.ntmps7
  go_wp2_with fail
  simp only [E0.out, E1.out, E2.out, E3.out, E4.out]
  generalize (w.alloc (Obj.cells #[.int .i64 0, .int .i64 0, .int .i64 0, .int .i64 0, .int .u64 0] 24)).alloc (Obj.cells #[.int .i64 n0, .int .i64 n1, .int .i64 n2, .int .i64 n3, .int .u64 n4] 24) = wa at *
  refine (HR.out _).mono ?_
  rintro e w4 ⟨rfl, hb⟩
  replace bk := bk.keep hb
  replace bk2 := bk2.keep hb
  replace hB := bstep hB (by simp) hb
  clear hb
  have hlt := bk.lt
  have y0 := bk2.cell 0 (.int .i64 n0) rfl
  have y1 := bk2.cell 1 (.int .i64 n1) rfl
  have y2 := bk2.cell 2 (.int .i64 n2) rfl
  have y3 := bk2.cell 3 (.int .i64 n3) rfl
  have y4 := bk2.cell 4 (.int .u64 n4) rfl
  have z0 := bk.cell 0 (.int .i64 0) rfl
  have z1 := bk.cell 1 (.int .i64 0) rfl
  have z2 := bk.cell 2 (.int .i64 0) rfl
  have z3 := bk.cell 3 (.int .i64 0) rfl
  have z4 := bk.cell 4 (.int .u64 0) rfl
  have f0 := bk.frozen 0
  have f1 := bk.frozen 1
  have f2 := bk.frozen 2
  have f3 := bk.frozen 3
  have f4 := bk.frozen 4
  cases q
  · go_wp2
    have hX := hB.grown (only_set5 w4 w.heap.size (.int .i64 0) (.int .i64 0) (.int .i64 0) (.int .i64 0) (.int .u64 0)) hB.size (fun k hk => by injection hk with hk; omega)
    exact bodyPost_ret (v := .tuple #[.agg #[.int .i64 0, .int .i64 0, .int .i64 0, .int .i64 0, .int .u64 0], .bool false]) (by simp [results, Tryd.results7, go_sem, *]) rfl ⟨rfl, hX⟩
  · go_wp2
    have hX := hB.grown (only_set5 w4 w.heap.size (.int .i64 n0) (.int .i64 n1) (.int .i64 n2) (.int .i64 n3) (.int .u64 n4)) hB.size (fun k hk => by injection hk with hk; omega)
    exact bodyPost_ret (v := .tuple #[.agg #[.int .i64 n0, .int .i64 n1, .int .i64 n2, .int .i64 n3, .int .u64 n4], .bool true]) (by simp [results, Tryd.results7, go_sem, *]) rfl ⟨rfl, hX⟩
end Go.Proofs.YtpimflmmfnffeaaDoor
