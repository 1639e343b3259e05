/- Walk: the statement CpuWords. -/
import Derived.Test.YtpimflmmfnffeaaDoorD4
namespace Go.Proofs.YtpimflmmfnffeaaDoor
open Go.RowKit

/-- the table of names lies in block 0 -/
def Names (w : World) : Prop := ∀ i, i ≤ 18 → w.cell? ⟨0, i, none⟩ = some (.string (nameS i))
theorem Names.keep {w w' : World} (h : Names w) (hb : Below w.heap.size w w') : Names w' := fun i hi => kcell hb (h i hi)

set_option maxRecDepth 100000 in
set_option maxHeartbeats 4000000 in
theorem words_nn (n0 n1 n2 n3 n4 m0 m1 m2 m3 m4 : Int) (x : Nat) (s : ByteArray) (w : World) (hn : Names w)
    (HW : Hid (∀ W : World, Calls Tryd.prog 5 #[.agg #[.int .i64 n0, .int .i64 n1, .int .i64 n2, .int .i64 n3, .int .u64 n4]] W fun e w' => e = .returned (.tuple #[.int .u64 0, .int .i64 1]) ∧ Below W.heap.size W w'))
    (HD : Hid (∀ W : World, Calls Tryd.prog 6 #[.int .u64 x] W fun e w' => e = .returned (.tuple #[.agg #[.int .i64 m0, .int .i64 m1, .int .i64 m2, .int .i64 m3, .int .u64 m4], .int .i64 21]) ∧ Below W.heap.size W w'))
    (HE : Hid (∀ W : World, Calls Tryd.prog 7 #[.int .u64 x] W fun e w' => e = .returned (.tuple #[.agg #[.int .i64 m0, .int .i64 m1, .int .i64 m2, .int .i64 m3, .int .u64 m4], .bool false]) ∧ Below W.heap.size W w'))
    (HU : Hid (∀ W : World, Calls Tryd.prog 5 #[.agg #[.int .i64 m0, .int .i64 m1, .int .i64 m2, .int .i64 m3, .int .u64 m4]] W fun e w' => e = .returned (.tuple #[.int .u64 0, .int .i64 0]) ∧ Below W.heap.size W w'))
    (HR : Hid (∀ W : World, Calls Tryd.prog 8 #[.agg #[.int .i64 n0, .int .i64 n1, .int .i64 n2, .int .i64 n3, .int .u64 n4]] W fun e w' => e = .returned (.bool false) ∧ Below W.heap.size W w'))
    (HQ : Hid (∀ W : World, Calls Tryd.prog 9 #[.agg #[.int .i64 n0, .int .i64 n1, .int .i64 n2, .int .i64 n3, .int .u64 n4]] W fun e w' => e = .returned (.bool false) ∧ Below W.heap.size W w'))
    (HN : Hid (∀ W : World, Names W → Calls Tryd.prog 10 #[.int .i64 n0] W fun e w' => e = .returned (.string s) ∧ W = w'))
    (HM : Hid (∀ W : World, Calls Tryd.prog 11 #[.int .i64 n0] W fun e w' => e = .returned (.string s) ∧ Below W.heap.size W w')) :
    Calls Tryd.prog 3 #[.agg #[.int .i64 n0, .int .i64 n1, .int .i64 n2, .int .i64 n3, .int .u64 n4], .int .u64 x] w fun e w' => e = .returned (.bool true) ∧ Below w.heap.size w w' := by
  have hB := below1 w (Obj.cells #[.int .i64 n0, .int .i64 n1, .int .i64 n2, .int .i64 n3, .int .u64 n4] 24)
  have bk := Blk.new w 24 #[.int .i64 n0, .int .i64 n1, .int .i64 n2, .int .i64 n3, .int .u64 n4]
  replace hn := hn.keep hB
  go_enter Tryd.func3, Tryd.ntmps3
  go_wp2_with fail
  generalize w.alloc (Obj.cells #[.int .i64 n0, .int .i64 n1, .int .i64 n2, .int .i64 n3, .int .u64 n4] 24) = w1 at *
  refine (to_any _ _ _ _ _ _).mono ?_
  rintro e w2 ⟨rfl, hb⟩
  replace hB := bstep hB (Nat.le_refl _) hb
  replace bk := bk.keep hb
  replace hn := hn.keep hb
  clear hb
  go_wp2_with fail
  refine (HW.out _).mono ?_
  rintro e w3 ⟨rfl, hb⟩
  replace hB := bstep hB (Nat.le_refl _) hb
  replace bk := bk.keep hb
  replace hn := hn.keep hb
  clear hb
  go_wp2_with fail
  refine (HD.out _).mono ?_
  rintro e w4 ⟨rfl, hb⟩
  replace hB := bstep hB (Nat.le_refl _) hb
  replace bk := bk.keep hb
  replace hn := hn.keep hb
  clear hb
  have hb := below1 w4 (Obj.cells #[.int .i64 m0, .int .i64 m1, .int .i64 m2, .int .i64 m3, .int .u64 m4] 27)
  have b7 := Blk.new w4 27 #[.int .i64 m0, .int .i64 m1, .int .i64 m2, .int .i64 m3, .int .u64 m4]
  replace hB := bstep hB (Nat.le_refl _) hb
  replace bk := bk.keep hb
  replace hn := hn.keep hb
  clear hb
  go_wp2_with fail
  generalize w4.alloc (Obj.cells #[.int .i64 m0, .int .i64 m1, .int .i64 m2, .int .i64 m3, .int .u64 m4] 27) = w5 at *
  generalize w4.heap.size = g7 at *
  refine (HE.out _).mono ?_
  rintro e w6 ⟨rfl, hb⟩
  replace hB := bstep hB (Nat.le_refl _) hb
  replace bk := bk.keep hb
  replace hn := hn.keep hb
  replace b7 := b7.keep hb
  clear hb
  have hb := below1 w6 (Obj.cells #[.int .i64 m0, .int .i64 m1, .int .i64 m2, .int .i64 m3, .int .u64 m4] 24)
  have b9 := Blk.new w6 24 #[.int .i64 m0, .int .i64 m1, .int .i64 m2, .int .i64 m3, .int .u64 m4]
  replace hB := bstep hB (Nat.le_refl _) hb
  replace bk := bk.keep hb
  replace hn := hn.keep hb
  replace b7 := b7.keep hb
  clear hb
  go_wp2_with fail
  generalize w6.alloc (Obj.cells #[.int .i64 m0, .int .i64 m1, .int .i64 m2, .int .i64 m3, .int .u64 m4] 24) = w7 at *
  generalize w6.heap.size = g9 at *
  have c0 := bk.cell 0 (.int .i64 n0) rfl
  have c1 := bk.cell 1 (.int .i64 n1) rfl
  have c2 := bk.cell 2 (.int .i64 n2) rfl
  have c3 := bk.cell 3 (.int .i64 n3) rfl
  have c4 := bk.cell 4 (.int .u64 n4) rfl
  have d0 := b7.cell 0 (.int .i64 m0) rfl
  have d1 := b7.cell 1 (.int .i64 m1) rfl
  have d2 := b7.cell 2 (.int .i64 m2) rfl
  have d3 := b7.cell 3 (.int .i64 m3) rfl
  have d4 := b7.cell 4 (.int .u64 m4) rfl
  have y0 := b9.cell 0 (.int .i64 m0) rfl
  have y1 := b9.cell 1 (.int .i64 m1) rfl
  have y2 := b9.cell 2 (.int .i64 m2) rfl
  have y3 := b9.cell 3 (.int .i64 m3) rfl
  have y4 := b9.cell 4 (.int .u64 m4) rfl
  have HN3 : Hid (∀ m : Aft w7, Calls Tryd.prog 10 #[.int .i64 n0] m.w fun e w' => e = .returned (.string s) ∧ m.w = w') := fun m => HN.out m.w (hn.keep m.ok)
  (have aft_c0 := Aft.cell c0; have aft_c1 := Aft.cell c1; have aft_c2 := Aft.cell c2; have aft_c3 := Aft.cell c3; have aft_c4 := Aft.cell c4; have aft_d0 := Aft.cell d0; have aft_d1 := Aft.cell d1; have aft_d2 := Aft.cell d2; have aft_d3 := Aft.cell d3; have aft_d4 := Aft.cell d4; have aft_y0 := Aft.cell y0; have aft_y1 := Aft.cell y1; have aft_y2 := Aft.cell y2; have aft_y3 := Aft.cell y3; have aft_y4 := Aft.cell y4; refine wp_region_aft (by kernel_rfl) (by kernel_rfl) ?_; (repeat (go_big_quiet_step ((first | (go_at_call 4; with_reducible exact aft_call (to_any _ _ _ _ _ _)) | (go_at_call 8; with_reducible exact aft_call (HR.out _)) | (go_at_call 9; with_reducible exact aft_call (HQ.out _)) | (go_at_call 10; with_reducible exact aft_same (HN3.out _)) | (go_at_call 11; with_reducible exact aft_call (HM.out _)))))); refine wpQuiet_nil ?_; clear aft_c0 aft_c1 aft_c2 aft_c3 aft_c4 aft_d0 aft_d1 aft_d2 aft_d3 aft_d4 aft_y0 aft_y1 aft_y2 aft_y3 aft_y4; intro w8 hw2_; have hb := Aft.below hw2_; clear hw2_)
  replace hB := bstep hB (Nat.le_refl _) hb
  replace bk := bk.keep hb
  replace b7 := b7.keep hb
  clear hb c0 c1 c2 c3 c4 d0 d1 d2 d3 d4 y0 y1 y2 y3 y4 HN3 hn b9
  have d0 := b7.cell 0 (.int .i64 m0) rfl
  have d1 := b7.cell 1 (.int .i64 m1) rfl
  have d2 := b7.cell 2 (.int .i64 m2) rfl
  have d3 := b7.cell 3 (.int .i64 m3) rfl
  have d4 := b7.cell 4 (.int .u64 m4) rfl
  go_wp2_with fail
  refine (HU.out _).mono ?_
  rintro e w9 ⟨rfl, hb⟩
  replace hB := bstep hB (Nat.le_refl _) hb
  replace bk := bk.keep hb
  clear hb b7 d0 d1 d2 d3 d4
  have c0 := bk.cell 0 (.int .i64 n0) rfl
  have c1 := bk.cell 1 (.int .i64 n1) rfl
  have c2 := bk.cell 2 (.int .i64 n2) rfl
  have c3 := bk.cell 3 (.int .i64 n3) rfl
  have c4 := bk.cell 4 (.int .u64 n4) rfl
  go_wp2_with fail
  refine (HQ.out _).mono ?_
  rintro e w10 ⟨rfl, hb⟩
  replace hB := bstep hB (Nat.le_refl _) hb
  replace bk := bk.keep hb
  clear hb c0 c1 c2 c3 c4
  go_wp2_with fail
  refine (awake_any _).mono ?_
  rintro e w11 ⟨rfl, hb⟩
  go_wp2_with fail
  go_ret
  exact ⟨rfl, bstep hB (Nat.le_refl _) hb⟩

set_option maxRecDepth 100000 in
set_option maxHeartbeats 4000000 in
theorem words_yn (n0 n1 n2 n3 n4 m0 m1 m2 m3 m4 : Int) (x : Nat) (s : ByteArray) (w : World) (hn : Names w)
    (HW : Hid (∀ W : World, Calls Tryd.prog 5 #[.agg #[.int .i64 n0, .int .i64 n1, .int .i64 n2, .int .i64 n3, .int .u64 n4]] W fun e w' => e = .returned (.tuple #[.int .u64 0, .int .i64 1]) ∧ Below W.heap.size W w'))
    (HD : Hid (∀ W : World, Calls Tryd.prog 6 #[.int .u64 x] W fun e w' => e = .returned (.tuple #[.agg #[.int .i64 m0, .int .i64 m1, .int .i64 m2, .int .i64 m3, .int .u64 m4], .int .i64 0]) ∧ Below W.heap.size W w'))
    (HE : Hid (∀ W : World, Calls Tryd.prog 7 #[.int .u64 x] W fun e w' => e = .returned (.tuple #[.agg #[.int .i64 m0, .int .i64 m1, .int .i64 m2, .int .i64 m3, .int .u64 m4], .bool true]) ∧ Below W.heap.size W w'))
    (HU : Hid (∀ W : World, Calls Tryd.prog 5 #[.agg #[.int .i64 m0, .int .i64 m1, .int .i64 m2, .int .i64 m3, .int .u64 m4]] W fun e w' => e = .returned (.tuple #[.int .u64 x, .int .i64 0]) ∧ Below W.heap.size W w'))
    (HR : Hid (∀ W : World, Calls Tryd.prog 8 #[.agg #[.int .i64 n0, .int .i64 n1, .int .i64 n2, .int .i64 n3, .int .u64 n4]] W fun e w' => e = .returned (.bool false) ∧ Below W.heap.size W w'))
    (HQ : Hid (∀ W : World, Calls Tryd.prog 9 #[.agg #[.int .i64 n0, .int .i64 n1, .int .i64 n2, .int .i64 n3, .int .u64 n4]] W fun e w' => e = .returned (.bool false) ∧ Below W.heap.size W w'))
    (HN : Hid (∀ W : World, Names W → Calls Tryd.prog 10 #[.int .i64 n0] W fun e w' => e = .returned (.string s) ∧ W = w'))
    (HM : Hid (∀ W : World, Calls Tryd.prog 11 #[.int .i64 n0] W fun e w' => e = .returned (.string s) ∧ Below W.heap.size W w')) :
    Calls Tryd.prog 3 #[.agg #[.int .i64 n0, .int .i64 n1, .int .i64 n2, .int .i64 n3, .int .u64 n4], .int .u64 x] w fun e w' => e = .returned (.bool true) ∧ Below w.heap.size w w' := by
  have hB := below1 w (Obj.cells #[.int .i64 n0, .int .i64 n1, .int .i64 n2, .int .i64 n3, .int .u64 n4] 24)
  have bk := Blk.new w 24 #[.int .i64 n0, .int .i64 n1, .int .i64 n2, .int .i64 n3, .int .u64 n4]
  replace hn := hn.keep hB
  go_enter Tryd.func3, Tryd.ntmps3
  go_wp2_with fail
  generalize w.alloc (Obj.cells #[.int .i64 n0, .int .i64 n1, .int .i64 n2, .int .i64 n3, .int .u64 n4] 24) = w1 at *
  refine (to_any _ _ _ _ _ _).mono ?_
  rintro e w2 ⟨rfl, hb⟩
  replace hB := bstep hB (Nat.le_refl _) hb
  replace bk := bk.keep hb
  replace hn := hn.keep hb
  clear hb
  go_wp2_with fail
  refine (HW.out _).mono ?_
  rintro e w3 ⟨rfl, hb⟩
  replace hB := bstep hB (Nat.le_refl _) hb
  replace bk := bk.keep hb
  replace hn := hn.keep hb
  clear hb
  go_wp2_with fail
  refine (HD.out _).mono ?_
  rintro e w4 ⟨rfl, hb⟩
  replace hB := bstep hB (Nat.le_refl _) hb
  replace bk := bk.keep hb
  replace hn := hn.keep hb
  clear hb
  have hb := below1 w4 (Obj.cells #[.int .i64 m0, .int .i64 m1, .int .i64 m2, .int .i64 m3, .int .u64 m4] 27)
  have b7 := Blk.new w4 27 #[.int .i64 m0, .int .i64 m1, .int .i64 m2, .int .i64 m3, .int .u64 m4]
  replace hB := bstep hB (Nat.le_refl _) hb
  replace bk := bk.keep hb
  replace hn := hn.keep hb
  clear hb
  go_wp2_with fail
  generalize w4.alloc (Obj.cells #[.int .i64 m0, .int .i64 m1, .int .i64 m2, .int .i64 m3, .int .u64 m4] 27) = w5 at *
  generalize w4.heap.size = g7 at *
  refine (HE.out _).mono ?_
  rintro e w6 ⟨rfl, hb⟩
  replace hB := bstep hB (Nat.le_refl _) hb
  replace bk := bk.keep hb
  replace hn := hn.keep hb
  replace b7 := b7.keep hb
  clear hb
  have hb := below1 w6 (Obj.cells #[.int .i64 m0, .int .i64 m1, .int .i64 m2, .int .i64 m3, .int .u64 m4] 24)
  have b9 := Blk.new w6 24 #[.int .i64 m0, .int .i64 m1, .int .i64 m2, .int .i64 m3, .int .u64 m4]
  replace hB := bstep hB (Nat.le_refl _) hb
  replace bk := bk.keep hb
  replace hn := hn.keep hb
  replace b7 := b7.keep hb
  clear hb
  go_wp2_with fail
  generalize w6.alloc (Obj.cells #[.int .i64 m0, .int .i64 m1, .int .i64 m2, .int .i64 m3, .int .u64 m4] 24) = w7 at *
  generalize w6.heap.size = g9 at *
  have c0 := bk.cell 0 (.int .i64 n0) rfl
  have c1 := bk.cell 1 (.int .i64 n1) rfl
  have c2 := bk.cell 2 (.int .i64 n2) rfl
  have c3 := bk.cell 3 (.int .i64 n3) rfl
  have c4 := bk.cell 4 (.int .u64 n4) rfl
  have d0 := b7.cell 0 (.int .i64 m0) rfl
  have d1 := b7.cell 1 (.int .i64 m1) rfl
  have d2 := b7.cell 2 (.int .i64 m2) rfl
  have d3 := b7.cell 3 (.int .i64 m3) rfl
  have d4 := b7.cell 4 (.int .u64 m4) rfl
  have y0 := b9.cell 0 (.int .i64 m0) rfl
  have y1 := b9.cell 1 (.int .i64 m1) rfl
  have y2 := b9.cell 2 (.int .i64 m2) rfl
  have y3 := b9.cell 3 (.int .i64 m3) rfl
  have y4 := b9.cell 4 (.int .u64 m4) rfl
  have HN3 : Hid (∀ m : Aft w7, Calls Tryd.prog 10 #[.int .i64 n0] m.w fun e w' => e = .returned (.string s) ∧ m.w = w') := fun m => HN.out m.w (hn.keep m.ok)
  (have aft_c0 := Aft.cell c0; have aft_c1 := Aft.cell c1; have aft_c2 := Aft.cell c2; have aft_c3 := Aft.cell c3; have aft_c4 := Aft.cell c4; have aft_d0 := Aft.cell d0; have aft_d1 := Aft.cell d1; have aft_d2 := Aft.cell d2; have aft_d3 := Aft.cell d3; have aft_d4 := Aft.cell d4; have aft_y0 := Aft.cell y0; have aft_y1 := Aft.cell y1; have aft_y2 := Aft.cell y2; have aft_y3 := Aft.cell y3; have aft_y4 := Aft.cell y4; refine wp_region_aft (by kernel_rfl) (by kernel_rfl) ?_; (repeat (go_big_quiet_step ((first | (go_at_call 4; with_reducible exact aft_call (to_any _ _ _ _ _ _)) | (go_at_call 8; with_reducible exact aft_call (HR.out _)) | (go_at_call 9; with_reducible exact aft_call (HQ.out _)) | (go_at_call 10; with_reducible exact aft_same (HN3.out _)) | (go_at_call 11; with_reducible exact aft_call (HM.out _)))))); refine wpQuiet_nil ?_; clear aft_c0 aft_c1 aft_c2 aft_c3 aft_c4 aft_d0 aft_d1 aft_d2 aft_d3 aft_d4 aft_y0 aft_y1 aft_y2 aft_y3 aft_y4; intro w8 hw2_; have hb := Aft.below hw2_; clear hw2_)
  replace hB := bstep hB (Nat.le_refl _) hb
  replace bk := bk.keep hb
  replace b7 := b7.keep hb
  clear hb c0 c1 c2 c3 c4 d0 d1 d2 d3 d4 y0 y1 y2 y3 y4 HN3 hn b9
  have d0 := b7.cell 0 (.int .i64 m0) rfl
  have d1 := b7.cell 1 (.int .i64 m1) rfl
  have d2 := b7.cell 2 (.int .i64 m2) rfl
  have d3 := b7.cell 3 (.int .i64 m3) rfl
  have d4 := b7.cell 4 (.int .u64 m4) rfl
  go_wp2_with fail
  refine (HU.out _).mono ?_
  rintro e w9 ⟨rfl, hb⟩
  replace hB := bstep hB (Nat.le_refl _) hb
  replace bk := bk.keep hb
  clear hb b7 d0 d1 d2 d3 d4
  have c0 := bk.cell 0 (.int .i64 n0) rfl
  have c1 := bk.cell 1 (.int .i64 n1) rfl
  have c2 := bk.cell 2 (.int .i64 n2) rfl
  have c3 := bk.cell 3 (.int .i64 n3) rfl
  have c4 := bk.cell 4 (.int .u64 n4) rfl
  go_wp2_with fail
  refine (HQ.out _).mono ?_
  rintro e w10 ⟨rfl, hb⟩
  replace hB := bstep hB (Nat.le_refl _) hb
  replace bk := bk.keep hb
  clear hb c0 c1 c2 c3 c4
  go_wp2_with fail
  refine (awake_any _).mono ?_
  rintro e w11 ⟨rfl, hb⟩
  go_wp2_with fail
  go_ret
  exact ⟨rfl, bstep hB (Nat.le_refl _) hb⟩

set_option maxRecDepth 100000 in
set_option maxHeartbeats 4000000 in
theorem words_ny (n0 n1 n2 n3 n4 m0 m1 m2 m3 m4 : Int) (x : Nat) (wv : Int) (s : ByteArray) (w : World) (hn : Names w)
    (HW : Hid (∀ W : World, Calls Tryd.prog 5 #[.agg #[.int .i64 n0, .int .i64 n1, .int .i64 n2, .int .i64 n3, .int .u64 n4]] W fun e w' => e = .returned (.tuple #[.int .u64 wv, .int .i64 0]) ∧ Below W.heap.size W w'))
    (HD : Hid (∀ W : World, Calls Tryd.prog 6 #[.int .u64 x] W fun e w' => e = .returned (.tuple #[.agg #[.int .i64 m0, .int .i64 m1, .int .i64 m2, .int .i64 m3, .int .u64 m4], .int .i64 21]) ∧ Below W.heap.size W w'))
    (HE : Hid (∀ W : World, Calls Tryd.prog 7 #[.int .u64 x] W fun e w' => e = .returned (.tuple #[.agg #[.int .i64 m0, .int .i64 m1, .int .i64 m2, .int .i64 m3, .int .u64 m4], .bool false]) ∧ Below W.heap.size W w'))
    (HU : Hid (∀ W : World, Calls Tryd.prog 5 #[.agg #[.int .i64 m0, .int .i64 m1, .int .i64 m2, .int .i64 m3, .int .u64 m4]] W fun e w' => e = .returned (.tuple #[.int .u64 0, .int .i64 0]) ∧ Below W.heap.size W w'))
    (HR : Hid (∀ W : World, Calls Tryd.prog 8 #[.agg #[.int .i64 n0, .int .i64 n1, .int .i64 n2, .int .i64 n3, .int .u64 n4]] W fun e w' => e = .returned (.bool true) ∧ Below W.heap.size W w'))
    (HQ : Hid (∀ W : World, Calls Tryd.prog 9 #[.agg #[.int .i64 n0, .int .i64 n1, .int .i64 n2, .int .i64 n3, .int .u64 n4]] W fun e w' => e = .returned (.bool true) ∧ Below W.heap.size W w'))
    (HN : Hid (∀ W : World, Names W → Calls Tryd.prog 10 #[.int .i64 n0] W fun e w' => e = .returned (.string s) ∧ W = w'))
    (HM : Hid (∀ W : World, Calls Tryd.prog 11 #[.int .i64 n0] W fun e w' => e = .returned (.string s) ∧ Below W.heap.size W w'))
    (HP : Hid (∀ W : World, Calls Tryd.prog 6 #[.int .u64 wv] W fun e w' => e = .returned (.tuple #[.agg #[.int .i64 n0, .int .i64 n1, .int .i64 n2, .int .i64 n3, .int .u64 n4], .int .i64 0]) ∧ Below W.heap.size W w'))
    (HV : Hid (∀ W : World, Calls Tryd.prog 13 #[.agg #[.int .i64 n0, .int .i64 n1, .int .i64 n2, .int .i64 n3, .int .u64 n4]] W fun e w' => e = .returned (.int .u64 wv) ∧ Below W.heap.size W w')) :
    Calls Tryd.prog 3 #[.agg #[.int .i64 n0, .int .i64 n1, .int .i64 n2, .int .i64 n3, .int .u64 n4], .int .u64 x] w fun e w' => e = .returned (.bool true) ∧ Below w.heap.size w w' := by
  have hB := below1 w (Obj.cells #[.int .i64 n0, .int .i64 n1, .int .i64 n2, .int .i64 n3, .int .u64 n4] 24)
  have bk := Blk.new w 24 #[.int .i64 n0, .int .i64 n1, .int .i64 n2, .int .i64 n3, .int .u64 n4]
  replace hn := hn.keep hB
  go_enter Tryd.func3, Tryd.ntmps3
  go_wp2_with fail
  generalize w.alloc (Obj.cells #[.int .i64 n0, .int .i64 n1, .int .i64 n2, .int .i64 n3, .int .u64 n4] 24) = w1 at *
  refine (to_any _ _ _ _ _ _).mono ?_
  rintro e w2 ⟨rfl, hb⟩
  replace hB := bstep hB (Nat.le_refl _) hb
  replace bk := bk.keep hb
  replace hn := hn.keep hb
  clear hb
  go_wp2_with fail
  refine (HW.out _).mono ?_
  rintro e w3 ⟨rfl, hb⟩
  replace hB := bstep hB (Nat.le_refl _) hb
  replace bk := bk.keep hb
  replace hn := hn.keep hb
  clear hb
  go_wp2_with fail
  refine (HD.out _).mono ?_
  rintro e w4 ⟨rfl, hb⟩
  replace hB := bstep hB (Nat.le_refl _) hb
  replace bk := bk.keep hb
  replace hn := hn.keep hb
  clear hb
  have hb := below1 w4 (Obj.cells #[.int .i64 m0, .int .i64 m1, .int .i64 m2, .int .i64 m3, .int .u64 m4] 27)
  have b7 := Blk.new w4 27 #[.int .i64 m0, .int .i64 m1, .int .i64 m2, .int .i64 m3, .int .u64 m4]
  replace hB := bstep hB (Nat.le_refl _) hb
  replace bk := bk.keep hb
  replace hn := hn.keep hb
  clear hb
  go_wp2_with fail
  generalize w4.alloc (Obj.cells #[.int .i64 m0, .int .i64 m1, .int .i64 m2, .int .i64 m3, .int .u64 m4] 27) = w5 at *
  generalize w4.heap.size = g7 at *
  refine (HE.out _).mono ?_
  rintro e w6 ⟨rfl, hb⟩
  replace hB := bstep hB (Nat.le_refl _) hb
  replace bk := bk.keep hb
  replace hn := hn.keep hb
  replace b7 := b7.keep hb
  clear hb
  have hb := below1 w6 (Obj.cells #[.int .i64 m0, .int .i64 m1, .int .i64 m2, .int .i64 m3, .int .u64 m4] 24)
  have b9 := Blk.new w6 24 #[.int .i64 m0, .int .i64 m1, .int .i64 m2, .int .i64 m3, .int .u64 m4]
  replace hB := bstep hB (Nat.le_refl _) hb
  replace bk := bk.keep hb
  replace hn := hn.keep hb
  replace b7 := b7.keep hb
  clear hb
  go_wp2_with fail
  generalize w6.alloc (Obj.cells #[.int .i64 m0, .int .i64 m1, .int .i64 m2, .int .i64 m3, .int .u64 m4] 24) = w7 at *
  generalize w6.heap.size = g9 at *
  have c0 := bk.cell 0 (.int .i64 n0) rfl
  have c1 := bk.cell 1 (.int .i64 n1) rfl
  have c2 := bk.cell 2 (.int .i64 n2) rfl
  have c3 := bk.cell 3 (.int .i64 n3) rfl
  have c4 := bk.cell 4 (.int .u64 n4) rfl
  have d0 := b7.cell 0 (.int .i64 m0) rfl
  have d1 := b7.cell 1 (.int .i64 m1) rfl
  have d2 := b7.cell 2 (.int .i64 m2) rfl
  have d3 := b7.cell 3 (.int .i64 m3) rfl
  have d4 := b7.cell 4 (.int .u64 m4) rfl
  have y0 := b9.cell 0 (.int .i64 m0) rfl
  have y1 := b9.cell 1 (.int .i64 m1) rfl
  have y2 := b9.cell 2 (.int .i64 m2) rfl
  have y3 := b9.cell 3 (.int .i64 m3) rfl
  have y4 := b9.cell 4 (.int .u64 m4) rfl
  have HN3 : Hid (∀ m : Aft w7, Calls Tryd.prog 10 #[.int .i64 n0] m.w fun e w' => e = .returned (.string s) ∧ m.w = w') := fun m => HN.out m.w (hn.keep m.ok)
  (have aft_c0 := Aft.cell c0; have aft_c1 := Aft.cell c1; have aft_c2 := Aft.cell c2; have aft_c3 := Aft.cell c3; have aft_c4 := Aft.cell c4; have aft_d0 := Aft.cell d0; have aft_d1 := Aft.cell d1; have aft_d2 := Aft.cell d2; have aft_d3 := Aft.cell d3; have aft_d4 := Aft.cell d4; have aft_y0 := Aft.cell y0; have aft_y1 := Aft.cell y1; have aft_y2 := Aft.cell y2; have aft_y3 := Aft.cell y3; have aft_y4 := Aft.cell y4; refine wp_region_aft (by kernel_rfl) (by kernel_rfl) ?_; (repeat (go_big_quiet_step ((first | (go_at_call 4; with_reducible exact aft_call (to_any _ _ _ _ _ _)) | (go_at_call 8; with_reducible exact aft_call (HR.out _)) | (go_at_call 9; with_reducible exact aft_call (HQ.out _)) | (go_at_call 10; with_reducible exact aft_same (HN3.out _)) | (go_at_call 11; with_reducible exact aft_call (HM.out _)))))); refine wpQuiet_nil ?_; clear aft_c0 aft_c1 aft_c2 aft_c3 aft_c4 aft_d0 aft_d1 aft_d2 aft_d3 aft_d4 aft_y0 aft_y1 aft_y2 aft_y3 aft_y4; intro w8 hw2_; have hb := Aft.below hw2_; clear hw2_)
  replace hB := bstep hB (Nat.le_refl _) hb
  replace bk := bk.keep hb
  replace b7 := b7.keep hb
  clear hb c0 c1 c2 c3 c4 d0 d1 d2 d3 d4 y0 y1 y2 y3 y4 HN3 hn b9
  have d0 := b7.cell 0 (.int .i64 m0) rfl
  have d1 := b7.cell 1 (.int .i64 m1) rfl
  have d2 := b7.cell 2 (.int .i64 m2) rfl
  have d3 := b7.cell 3 (.int .i64 m3) rfl
  have d4 := b7.cell 4 (.int .u64 m4) rfl
  go_wp2_with fail
  refine (HU.out _).mono ?_
  rintro e w9 ⟨rfl, hb⟩
  replace hB := bstep hB (Nat.le_refl _) hb
  replace bk := bk.keep hb
  clear hb b7 d0 d1 d2 d3 d4
  have c0 := bk.cell 0 (.int .i64 n0) rfl
  have c1 := bk.cell 1 (.int .i64 n1) rfl
  have c2 := bk.cell 2 (.int .i64 n2) rfl
  have c3 := bk.cell 3 (.int .i64 n3) rfl
  have c4 := bk.cell 4 (.int .u64 n4) rfl
  go_wp2_with fail
  refine (HQ.out _).mono ?_
  rintro e w10 ⟨rfl, hb⟩
  replace hB := bstep hB (Nat.le_refl _) hb
  replace bk := bk.keep hb
  clear hb c0 c1 c2 c3 c4
  go_wp2_with fail
  refine (HP.out _).mono ?_
  rintro e w11 ⟨rfl, hb⟩
  replace hB := bstep hB (Nat.le_refl _) hb
  replace bk := bk.keep hb
  clear hb
  go_wp2_with fail
  have b13 := Blk.new w11 27 #[.int .i64 n0, .int .i64 n1, .int .i64 n2, .int .i64 n3, .int .u64 n4]
  replace bk := bk.alloc (Obj.cells #[.int .i64 n0, .int .i64 n1, .int .i64 n2, .int .i64 n3, .int .u64 n4] 27)
  replace hB := hB.alloc hB.size (Obj.cells #[.int .i64 n0, .int .i64 n1, .int .i64 n2, .int .i64 n3, .int .u64 n4] 27)
  generalize w11.alloc (Obj.cells #[.int .i64 n0, .int .i64 n1, .int .i64 n2, .int .i64 n3, .int .u64 n4] 27) = w12 at *
  generalize w11.heap.size = g13 at *
  have c0 := bk.cell 0 (.int .i64 n0) rfl
  have c1 := bk.cell 1 (.int .i64 n1) rfl
  have c2 := bk.cell 2 (.int .i64 n2) rfl
  have c3 := bk.cell 3 (.int .i64 n3) rfl
  have c4 := bk.cell 4 (.int .u64 n4) rfl
  have d0 := b13.cell 0 (.int .i64 n0) rfl
  have d1 := b13.cell 1 (.int .i64 n1) rfl
  have d2 := b13.cell 2 (.int .i64 n2) rfl
  have d3 := b13.cell 3 (.int .i64 n3) rfl
  have d4 := b13.cell 4 (.int .u64 n4) rfl
  (have aft_c0 := Aft.cell c0; have aft_c1 := Aft.cell c1; have aft_c2 := Aft.cell c2; have aft_c3 := Aft.cell c3; have aft_c4 := Aft.cell c4; have aft_d0 := Aft.cell d0; have aft_d1 := Aft.cell d1; have aft_d2 := Aft.cell d2; have aft_d3 := Aft.cell d3; have aft_d4 := Aft.cell d4; refine wp_region_aft (by kernel_rfl) (by kernel_rfl) ?_; (repeat (go_big_quiet_step ((first | (go_at_call 4; with_reducible exact aft_call (to_any _ _ _ _ _ _)) | (go_at_call 13; with_reducible exact aft_call (HV.out _)) | (go_at_call 12; with_reducible exact aft_call (awake_any _)))))); refine wpQuiet_nil ?_; clear aft_c0 aft_c1 aft_c2 aft_c3 aft_c4 aft_d0 aft_d1 aft_d2 aft_d3 aft_d4; intro w13 hw2_; have hb := Aft.below hw2_; clear hw2_)
  replace hB := bstep hB (Nat.le_refl _) hb
  go_wp2_with fail
  go_ret
  exact ⟨rfl, hB⟩

set_option maxRecDepth 100000 in
set_option maxHeartbeats 4000000 in
theorem words_yy (n0 n1 n2 n3 n4 m0 m1 m2 m3 m4 : Int) (x : Nat) (wv : Int) (s : ByteArray) (w : World) (hn : Names w)
    (HW : Hid (∀ W : World, Calls Tryd.prog 5 #[.agg #[.int .i64 n0, .int .i64 n1, .int .i64 n2, .int .i64 n3, .int .u64 n4]] W fun e w' => e = .returned (.tuple #[.int .u64 wv, .int .i64 0]) ∧ Below W.heap.size W w'))
    (HD : Hid (∀ W : World, Calls Tryd.prog 6 #[.int .u64 x] W fun e w' => e = .returned (.tuple #[.agg #[.int .i64 m0, .int .i64 m1, .int .i64 m2, .int .i64 m3, .int .u64 m4], .int .i64 0]) ∧ Below W.heap.size W w'))
    (HE : Hid (∀ W : World, Calls Tryd.prog 7 #[.int .u64 x] W fun e w' => e = .returned (.tuple #[.agg #[.int .i64 m0, .int .i64 m1, .int .i64 m2, .int .i64 m3, .int .u64 m4], .bool true]) ∧ Below W.heap.size W w'))
    (HU : Hid (∀ W : World, Calls Tryd.prog 5 #[.agg #[.int .i64 m0, .int .i64 m1, .int .i64 m2, .int .i64 m3, .int .u64 m4]] W fun e w' => e = .returned (.tuple #[.int .u64 x, .int .i64 0]) ∧ Below W.heap.size W w'))
    (HR : Hid (∀ W : World, Calls Tryd.prog 8 #[.agg #[.int .i64 n0, .int .i64 n1, .int .i64 n2, .int .i64 n3, .int .u64 n4]] W fun e w' => e = .returned (.bool true) ∧ Below W.heap.size W w'))
    (HQ : Hid (∀ W : World, Calls Tryd.prog 9 #[.agg #[.int .i64 n0, .int .i64 n1, .int .i64 n2, .int .i64 n3, .int .u64 n4]] W fun e w' => e = .returned (.bool true) ∧ Below W.heap.size W w'))
    (HN : Hid (∀ W : World, Names W → Calls Tryd.prog 10 #[.int .i64 n0] W fun e w' => e = .returned (.string s) ∧ W = w'))
    (HM : Hid (∀ W : World, Calls Tryd.prog 11 #[.int .i64 n0] W fun e w' => e = .returned (.string s) ∧ Below W.heap.size W w'))
    (HP : Hid (∀ W : World, Calls Tryd.prog 6 #[.int .u64 wv] W fun e w' => e = .returned (.tuple #[.agg #[.int .i64 n0, .int .i64 n1, .int .i64 n2, .int .i64 n3, .int .u64 n4], .int .i64 0]) ∧ Below W.heap.size W w'))
    (HV : Hid (∀ W : World, Calls Tryd.prog 13 #[.agg #[.int .i64 n0, .int .i64 n1, .int .i64 n2, .int .i64 n3, .int .u64 n4]] W fun e w' => e = .returned (.int .u64 wv) ∧ Below W.heap.size W w')) :
    Calls Tryd.prog 3 #[.agg #[.int .i64 n0, .int .i64 n1, .int .i64 n2, .int .i64 n3, .int .u64 n4], .int .u64 x] w fun e w' => e = .returned (.bool true) ∧ Below w.heap.size w w' := by
  have hB := below1 w (Obj.cells #[.int .i64 n0, .int .i64 n1, .int .i64 n2, .int .i64 n3, .int .u64 n4] 24)
  have bk := Blk.new w 24 #[.int .i64 n0, .int .i64 n1, .int .i64 n2, .int .i64 n3, .int .u64 n4]
  replace hn := hn.keep hB
  go_enter Tryd.func3, Tryd.ntmps3
  go_wp2_with fail
  generalize w.alloc (Obj.cells #[.int .i64 n0, .int .i64 n1, .int .i64 n2, .int .i64 n3, .int .u64 n4] 24) = w1 at *
  refine (to_any _ _ _ _ _ _).mono ?_
  rintro e w2 ⟨rfl, hb⟩
  replace hB := bstep hB (Nat.le_refl _) hb
  replace bk := bk.keep hb
  replace hn := hn.keep hb
  clear hb
  go_wp2_with fail
  refine (HW.out _).mono ?_
  rintro e w3 ⟨rfl, hb⟩
  replace hB := bstep hB (Nat.le_refl _) hb
  replace bk := bk.keep hb
  replace hn := hn.keep hb
  clear hb
  go_wp2_with fail
  refine (HD.out _).mono ?_
  rintro e w4 ⟨rfl, hb⟩
  replace hB := bstep hB (Nat.le_refl _) hb
  replace bk := bk.keep hb
  replace hn := hn.keep hb
  clear hb
  have hb := below1 w4 (Obj.cells #[.int .i64 m0, .int .i64 m1, .int .i64 m2, .int .i64 m3, .int .u64 m4] 27)
  have b7 := Blk.new w4 27 #[.int .i64 m0, .int .i64 m1, .int .i64 m2, .int .i64 m3, .int .u64 m4]
  replace hB := bstep hB (Nat.le_refl _) hb
  replace bk := bk.keep hb
  replace hn := hn.keep hb
  clear hb
  go_wp2_with fail
  generalize w4.alloc (Obj.cells #[.int .i64 m0, .int .i64 m1, .int .i64 m2, .int .i64 m3, .int .u64 m4] 27) = w5 at *
  generalize w4.heap.size = g7 at *
  refine (HE.out _).mono ?_
  rintro e w6 ⟨rfl, hb⟩
  replace hB := bstep hB (Nat.le_refl _) hb
  replace bk := bk.keep hb
  replace hn := hn.keep hb
  replace b7 := b7.keep hb
  clear hb
  have hb := below1 w6 (Obj.cells #[.int .i64 m0, .int .i64 m1, .int .i64 m2, .int .i64 m3, .int .u64 m4] 24)
  have b9 := Blk.new w6 24 #[.int .i64 m0, .int .i64 m1, .int .i64 m2, .int .i64 m3, .int .u64 m4]
  replace hB := bstep hB (Nat.le_refl _) hb
  replace bk := bk.keep hb
  replace hn := hn.keep hb
  replace b7 := b7.keep hb
  clear hb
  go_wp2_with fail
  generalize w6.alloc (Obj.cells #[.int .i64 m0, .int .i64 m1, .int .i64 m2, .int .i64 m3, .int .u64 m4] 24) = w7 at *
  generalize w6.heap.size = g9 at *
  have c0 := bk.cell 0 (.int .i64 n0) rfl
  have c1 := bk.cell 1 (.int .i64 n1) rfl
  have c2 := bk.cell 2 (.int .i64 n2) rfl
  have c3 := bk.cell 3 (.int .i64 n3) rfl
  have c4 := bk.cell 4 (.int .u64 n4) rfl
  have d0 := b7.cell 0 (.int .i64 m0) rfl
  have d1 := b7.cell 1 (.int .i64 m1) rfl
  have d2 := b7.cell 2 (.int .i64 m2) rfl
  have d3 := b7.cell 3 (.int .i64 m3) rfl
  have d4 := b7.cell 4 (.int .u64 m4) rfl
  have y0 := b9.cell 0 (.int .i64 m0) rfl
  have y1 := b9.cell 1 (.int .i64 m1) rfl
  have y2 := b9.cell 2 (.int .i64 m2) rfl
  have y3 := b9.cell 3 (.int .i64 m3) rfl
  have y4 := b9.cell 4 (.int .u64 m4) rfl
  have HN3 : Hid (∀ m : Aft w7, Calls Tryd.prog 10 #[.int .i64 n0] m.w fun e w' => e = .returned (.string s) ∧ m.w = w') := fun m => HN.out m.w (hn.keep m.ok)
  (have aft_c0 := Aft.cell c0; have aft_c1 := Aft.cell c1; have aft_c2 := Aft.cell c2; have aft_c3 := Aft.cell c3; have aft_c4 := Aft.cell c4; have aft_d0 := Aft.cell d0; have aft_d1 := Aft.cell d1; have aft_d2 := Aft.cell d2; have aft_d3 := Aft.cell d3; have aft_d4 := Aft.cell d4; have aft_y0 := Aft.cell y0; have aft_y1 := Aft.cell y1; have aft_y2 := Aft.cell y2; have aft_y3 := Aft.cell y3; have aft_y4 := Aft.cell y4; refine wp_region_aft (by kernel_rfl) (by kernel_rfl) ?_; (repeat (go_big_quiet_step ((first | (go_at_call 4; with_reducible exact aft_call (to_any _ _ _ _ _ _)) | (go_at_call 8; with_reducible exact aft_call (HR.out _)) | (go_at_call 9; with_reducible exact aft_call (HQ.out _)) | (go_at_call 10; with_reducible exact aft_same (HN3.out _)) | (go_at_call 11; with_reducible exact aft_call (HM.out _)))))); refine wpQuiet_nil ?_; clear aft_c0 aft_c1 aft_c2 aft_c3 aft_c4 aft_d0 aft_d1 aft_d2 aft_d3 aft_d4 aft_y0 aft_y1 aft_y2 aft_y3 aft_y4; intro w8 hw2_; have hb := Aft.below hw2_; clear hw2_)
  replace hB := bstep hB (Nat.le_refl _) hb
  replace bk := bk.keep hb
  replace b7 := b7.keep hb
  clear hb c0 c1 c2 c3 c4 d0 d1 d2 d3 d4 y0 y1 y2 y3 y4 HN3 hn b9
  have d0 := b7.cell 0 (.int .i64 m0) rfl
  have d1 := b7.cell 1 (.int .i64 m1) rfl
  have d2 := b7.cell 2 (.int .i64 m2) rfl
  have d3 := b7.cell 3 (.int .i64 m3) rfl
  have d4 := b7.cell 4 (.int .u64 m4) rfl
  go_wp2_with fail
  refine (HU.out _).mono ?_
  rintro e w9 ⟨rfl, hb⟩
  replace hB := bstep hB (Nat.le_refl _) hb
  replace bk := bk.keep hb
  clear hb b7 d0 d1 d2 d3 d4
  have c0 := bk.cell 0 (.int .i64 n0) rfl
  have c1 := bk.cell 1 (.int .i64 n1) rfl
  have c2 := bk.cell 2 (.int .i64 n2) rfl
  have c3 := bk.cell 3 (.int .i64 n3) rfl
  have c4 := bk.cell 4 (.int .u64 n4) rfl
  go_wp2_with fail
  refine (HQ.out _).mono ?_
  rintro e w10 ⟨rfl, hb⟩
  replace hB := bstep hB (Nat.le_refl _) hb
  replace bk := bk.keep hb
  clear hb c0 c1 c2 c3 c4
  go_wp2_with fail
  refine (HP.out _).mono ?_
  rintro e w11 ⟨rfl, hb⟩
  replace hB := bstep hB (Nat.le_refl _) hb
  replace bk := bk.keep hb
  clear hb
  go_wp2_with fail
  have b13 := Blk.new w11 27 #[.int .i64 n0, .int .i64 n1, .int .i64 n2, .int .i64 n3, .int .u64 n4]
  replace bk := bk.alloc (Obj.cells #[.int .i64 n0, .int .i64 n1, .int .i64 n2, .int .i64 n3, .int .u64 n4] 27)
  replace hB := hB.alloc hB.size (Obj.cells #[.int .i64 n0, .int .i64 n1, .int .i64 n2, .int .i64 n3, .int .u64 n4] 27)
  generalize w11.alloc (Obj.cells #[.int .i64 n0, .int .i64 n1, .int .i64 n2, .int .i64 n3, .int .u64 n4] 27) = w12 at *
  generalize w11.heap.size = g13 at *
  have c0 := bk.cell 0 (.int .i64 n0) rfl
  have c1 := bk.cell 1 (.int .i64 n1) rfl
  have c2 := bk.cell 2 (.int .i64 n2) rfl
  have c3 := bk.cell 3 (.int .i64 n3) rfl
  have c4 := bk.cell 4 (.int .u64 n4) rfl
  have d0 := b13.cell 0 (.int .i64 n0) rfl
  have d1 := b13.cell 1 (.int .i64 n1) rfl
  have d2 := b13.cell 2 (.int .i64 n2) rfl
  have d3 := b13.cell 3 (.int .i64 n3) rfl
  have d4 := b13.cell 4 (.int .u64 n4) rfl
  (have aft_c0 := Aft.cell c0; have aft_c1 := Aft.cell c1; have aft_c2 := Aft.cell c2; have aft_c3 := Aft.cell c3; have aft_c4 := Aft.cell c4; have aft_d0 := Aft.cell d0; have aft_d1 := Aft.cell d1; have aft_d2 := Aft.cell d2; have aft_d3 := Aft.cell d3; have aft_d4 := Aft.cell d4; refine wp_region_aft (by kernel_rfl) (by kernel_rfl) ?_; (repeat (go_big_quiet_step ((first | (go_at_call 4; with_reducible exact aft_call (to_any _ _ _ _ _ _)) | (go_at_call 13; with_reducible exact aft_call (HV.out _)) | (go_at_call 12; with_reducible exact aft_call (awake_any _)))))); refine wpQuiet_nil ?_; clear aft_c0 aft_c1 aft_c2 aft_c3 aft_c4 aft_d0 aft_d1 aft_d2 aft_d3 aft_d4; intro w13 hw2_; have hb := Aft.below hw2_; clear hw2_)
  replace hB := bstep hB (Nat.le_refl _) hb
  go_wp2_with fail
  go_ret
  exact ⟨rfl, hB⟩

end Go.Proofs.YtpimflmmfnffeaaDoor
