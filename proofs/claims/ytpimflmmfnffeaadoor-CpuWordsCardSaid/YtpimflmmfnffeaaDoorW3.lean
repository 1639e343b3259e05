/- Walks: the instruction of a word. -/
import Derived.Test.YtpimflmmfnffeaaDoorW2
import Derived.Test.YtpimflmmfnffeaaDoorSoft4
namespace Go.Proofs.YtpimflmmfnffeaaDoor
open Go.RowKit

theorem blk_set5 {w : World} {g : Nat} {t : TypeId} {a b c d e : Value} (h : Blk w g t #[a, b, c, d, e]) (v0 v1 v2 v3 v4 : Value) :
    Blk (((((w.setCell ⟨g, 0, none⟩ (v0)).setCell ⟨g, 1, none⟩ (v1)).setCell ⟨g, 2, none⟩ (v2)).setCell ⟨g, 3, none⟩ (v3)).setCell ⟨g, 4, none⟩ (v4)) g t #[v0, v1, v2, v3, v4] := by
  have := ((((h.set_ 0 v0).set_ 1 v1).set_ 2 v2).set_ 3 v3).set_ 4 v4
  simpa using this
theorem only_set5 (w : World) (g : Nat) (v0 v1 v2 v3 v4 : Value) : w.grownBy (((((w.setCell ⟨g, 0, none⟩ (v0)).setCell ⟨g, 1, none⟩ (v1)).setCell ⟨g, 2, none⟩ (v2)).setCell ⟨g, 3, none⟩ (v3)).setCell ⟨g, 4, none⟩ (v4)) (some g) :=
  only_set (only_set (only_set (only_set (only_set (only_refl w g) 0 v0) 1 v1) 2 v2) 3 v3) 4 v4

set_option maxRecDepth 100000 in
set_option maxHeartbeats 4000000 in
theorem decode_num (x n0 n1 n2 n3 n4 : Nat) (w : World) (hx : x < 18446744073709551616) (hP : partsL.map (getF · (x : Int)) = [(n0 : Int), (n1 : Int), (n2 : Int), (n3 : Int), (n4 : Int)]) (hs : n0 < 1000000000 ∧ n1 < 1000000000 ∧ n2 < 1000000000 ∧ n3 < 1000000000) (q : Bool) (hq : rightI n0 n1 n2 n3 n4 = q) :
    Calls Tryd.prog 6 #[.int .u64 x] w fun e w' => e = .returned (if q then .tuple #[.agg #[.int .i64 n0, .int .i64 n1, .int .i64 n2, .int .i64 n3, .int .u64 n4], .int .i64 0] else .tuple #[.agg #[.int .i64 0, .int .i64 0, .int .i64 0, .int .i64 0, .int .u64 0], .int .i64 21]) ∧ Below w.heap.size w w' := by
  have u0 : IntKind.i64.wrap (n0 : Int) = n0 := by rw [IntKind.wrap_i64]; omega
  have u1 : IntKind.i64.wrap (n1 : Int) = n1 := by rw [IntKind.wrap_i64]; omega
  have u2 : IntKind.i64.wrap (n2 : Int) = n2 := by rw [IntKind.wrap_i64]; omega
  have u3 : IntKind.i64.wrap (n3 : Int) = n3 := by rw [IntKind.wrap_i64]; omega
  have HR := Lib.hid (fun W => right_inst n0 n1 n2 n3 n4 W (by omega))
  rw [hq] at HR
  have HS : Hid (∀ (W : World) (A : Option Addr), Sl eF 2 W A partsL → Calls Tryd.prog 16 #[.slice A 5 5, .int .u64 (x : Int)] W (RetSl eU 1 22 [(n0 : Int), (n1 : Int), (n2 : Int), (n3 : Int), (n4 : Int)] W)) := fun W A h => by rw [← hP]; exact split_any A partsL x 5 W h (by decide) (by omega) (by omega)
  clear hP
  have hB := below1 w (Obj.cells #[.int .i64 0, .int .i64 0, .int .i64 0, .int .i64 0, .int .u64 0] 27)
  have bk := Blk.new w 27 #[.int .i64 0, .int .i64 0, .int .i64 0, .int .i64 0, .int .u64 0]
  go_enter Tryd.func6, Tryd.ntmps6
  go_wp2_with fail
  refine (parts_any _).mono ?_
  rintro e w1 ⟨rfl, rfl⟩
  have hsl := Sl.lit eF_ok (w.alloc (Obj.cells #[.int .i64 0, .int .i64 0, .int .i64 0, .int .i64 0, .int .u64 0] 27)) partsL partsA rfl 64
  generalize w.alloc (Obj.cells #[.int .i64 0, .int .i64 0, .int .i64 0, .int .i64 0, .int .u64 0] 27) = wa at *
  replace hB := hB.alloc hB.size (Obj.cells partsA 64)
  replace bk := bk.alloc (Obj.cells partsA 64)
  go_wp2_with fail
  refine (HS.out _ _ hsl).mono ?_
  rintro e w2 ⟨A, k, rfl, own, hb⟩
  replace bk := bk.keep hb
  replace hB := bstep hB (by simp) hb
  clear hb hsl
  rcases own.shape with ⟨_, hnil, _⟩ | ⟨g, rfl⟩
  · cases hnil
  have hsl := own.sl eU_ok
  have hlg := own.lt g rfl
  have c0 := hsl.u_c (i := 0) (by simp)
  have c1 := hsl.u_c (i := 1) (by simp)
  have c2 := hsl.u_c (i := 2) (by simp)
  have c3 := hsl.u_c (i := 3) (by simp)
  have c4 := hsl.u_c (i := 4) (by simp)
  simp only [List.getElem_cons_zero, List.getElem_cons_succ, Nat.zero_add] at c0 c1 c2 c3 c4
  clear hsl own
  go_wp2_with fail
  have aft_c0 := Aft.cell c0
  have aft_c1 := Aft.cell c1
  have aft_c2 := Aft.cell c2
  have aft_c3 := Aft.cell c3
  have aft_c4 := Aft.cell c4
  refine wp_region_soft [5] (fun _ => ⟨27, fun g => .pointer (some ⟨g, 0, none⟩), #[.int .i64 0, .int .i64 0, .int .i64 0, .int .i64 0, .int .u64 0], #[.int .i64 n0, .int .i64 n1, .int .i64 n2, .int .i64 n3, .int .u64 n4]⟩) 34 (by kernel_rfl) (by kernel_rfl) (by rfl) ?_
  repeat (first | (refine sh_q (by rfl) (by rfl) (by rfl) (fun K hK => ?_); go_big_quiet_op; refine hK _ ?_; clear hK K) | (refine sh_skip (by rfl) (by rfl) ?_; (try simp only [Act.put, List.setIfInBounds_toArray, List.set_cons_zero, List.set_cons_succ])) | (refine sh_call (by rfl) (by rfl) (by rfl) (fun K hK => ?_); go_simp; (try simp only [CUp, true_and]); first | (apply Exists.intro; refine ⟨fun n => rfl, hK _ ?_⟩; clear hK K; (try simp only [Act.put, List.setIfInBounds_toArray, List.set_cons_zero, List.set_cons_succ]))) | (refine sh_m 5 (by rfl) (fun n => by go_simp) ?_; (try simp only [Act.put, List.setIfInBounds_toArray, List.set_cons_zero, List.set_cons_succ])) | (refine sh_s 5 (by rfl) (fun g w hb => ⟨(((((w.setCell ⟨g, 0, none⟩ (.int .i64 n0)).setCell ⟨g, 1, none⟩ (.int .i64 n1)).setCell ⟨g, 2, none⟩ (.int .i64 n2)).setCell ⟨g, 3, none⟩ (.int .i64 n3)).setCell ⟨g, 4, none⟩ (.int .u64 n4)), by (have b0 := hb.cell 0 (.int .i64 0) rfl; have f0 := hb.frozen 0; have b1 := hb.cell 1 (.int .i64 0) rfl; have f1 := hb.frozen 1; have b2 := hb.cell 2 (.int .i64 0) rfl; have f2 := hb.frozen 2; have b3 := hb.cell 3 (.int .i64 0) rfl; have f3 := hb.frozen 3; have b4 := hb.cell 4 (.int .u64 0) rfl; have f4 := hb.frozen 4; go_simp), by (have hb2 := (((((hb.set_ 0 (.int .i64 n0)).set_ 1 (.int .i64 n1)).set_ 2 (.int .i64 n2)).set_ 3 (.int .i64 n3)).set_ 4 (.int .u64 n4)); simpa using hb2), only_set (only_set (only_set (only_set (only_set (only_refl w g) 0 (.int .i64 n0)) 1 (.int .i64 n1)) 2 (.int .i64 n2)) 3 (.int .i64 n3)) 4 (.int .u64 n4)⟩) ?_; (try simp only [Act.put, List.setIfInBounds_toArray, List.set_cons_zero, List.set_cons_succ])))
  refine sh_end ?_
  intro γ w3 hb3 hmem hinj
  have hm5 := hmem 5 (by simp)
  clear hmem hinj aft_c0 aft_c1 aft_c2 aft_c3 aft_c4
  simp only [putM, Act.put, List.setIfInBounds_toArray, List.set_cons_zero, List.set_cons_succ]
  generalize γ 5 = g5 at *
  clear γ

  obtain ⟨hl5, bk5⟩ := hm5
  replace bk := bk.keep hb3
  replace hB := bstep hB (by simp) hb3
  have y0 := bk5.cell 0 (.int .i64 n0) rfl
  have y1 := bk5.cell 1 (.int .i64 n1) rfl
  have y2 := bk5.cell 2 (.int .i64 n2) rfl
  have y3 := bk5.cell 3 (.int .i64 n3) rfl
  have y4 := bk5.cell 4 (.int .u64 n4) rfl
  clear hb3
  go_wp2_with fail
  refine (HR.out _).mono ?_
  rintro e w4 ⟨rfl, hb⟩
  replace bk := bk.keep hb
  replace bk5 := bk5.keep hb
  replace hB := bstep hB (by simp) hb
  clear hb y0 y1 y2 y3 y4
  have hlt := bk.lt
  have y0 := bk5.cell 0 (.int .i64 n0) rfl
  have y1 := bk5.cell 1 (.int .i64 n1) rfl
  have y2 := bk5.cell 2 (.int .i64 n2) rfl
  have y3 := bk5.cell 3 (.int .i64 n3) rfl
  have y4 := bk5.cell 4 (.int .u64 n4) rfl
  have z0 := bk.cell 0 (.int .i64 0) rfl
  have z1 := bk.cell 1 (.int .i64 0) rfl
  have z2 := bk.cell 2 (.int .i64 0) rfl
  have z3 := bk.cell 3 (.int .i64 0) rfl
  have z4 := bk.cell 4 (.int .u64 0) rfl
  have f0 := bk.frozen 0
  have f1 := bk.frozen 1
  have f2 := bk.frozen 2
  have f3 := bk.frozen 3
  have f4 := bk.frozen 4
  cases q
  · go_wp2
    have hX := hB.grown (only_set5 w4 w.heap.size (.int .i64 0) (.int .i64 0) (.int .i64 0) (.int .i64 0) (.int .u64 0)) hB.size (fun k hk => by injection hk with hk; omega)
    exact bodyPost_ret (v := .tuple #[.agg #[.int .i64 0, .int .i64 0, .int .i64 0, .int .i64 0, .int .u64 0], .int .i64 21]) (by simp [results, Tryd.results6, go_sem, *]) rfl ⟨rfl, hX⟩
  · go_wp2
    have hX := hB.grown (only_set5 w4 w.heap.size (.int .i64 n0) (.int .i64 n1) (.int .i64 n2) (.int .i64 n3) (.int .u64 n4)) hB.size (fun k hk => by injection hk with hk; omega)
    exact bodyPost_ret (v := .tuple #[.agg #[.int .i64 n0, .int .i64 n1, .int .i64 n2, .int .i64 n3, .int .u64 n4], .int .i64 0]) (by simp [results, Tryd.results6, go_sem, *]) rfl ⟨rfl, hX⟩
end Go.Proofs.YtpimflmmfnffeaaDoor
