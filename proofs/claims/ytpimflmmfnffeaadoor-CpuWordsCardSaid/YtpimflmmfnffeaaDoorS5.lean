/- Walks: the example program: Run, awake. -/
import Derived.Test.YtpimflmmfnffeaaDoorS4
namespace Go.Proofs.YtpimflmmfnffeaaDoor
open Go.RowKit

theorem dec_0 (W : World) : Calls Tryd.prog 6 #[.int .u64 314572801] W fun e w' => e = .returned (.tuple #[.agg #[.int .i64 1, .int .i64 0, .int .i64 0, .int .i64 0, .int .u64 300], .int .i64 0]) ∧ Below W.heap.size W w' :=
  decode_num 314572801 1 0 0 0 300 W (by decide) (by rw [get_parts 314572801 (by decide)]) (by decide) true (by decide +kernel)
theorem word_0 (W : World) : Calls Tryd.prog 21 #[.agg #[.int .i64 1, .int .i64 0, .int .i64 0, .int .i64 0, .int .u64 300]] W fun e w' => e = .returned (.int .u64 314572801) ∧ Below W.heap.size W w' := by
  have HW : Hid (∀ W : World, Calls Tryd.prog 5 #[.agg #[.int .i64 1, .int .i64 0, .int .i64 0, .int .i64 0, .int .u64 300]] W fun e w' => e = .returned (.tuple #[.int .u64 314572801, .int .i64 0]) ∧ Below W.heap.size W w') := fun W => word_yes 1 0 0 0 300 W (by decide +kernel)
  go_enter Tryd.func21, Tryd.ntmps21
  go_wp2_with fail
  refine (HW.out _).mono ?_
  rintro e w2 ⟨rfl, hb⟩
  go_wp2
  go_ret
  exact ⟨rfl, bstep (below1 W _) (Nat.le_refl _) hb⟩
theorem dec_1 (W : World) : Calls Tryd.prog 6 #[.int .u64 7340289] W fun e w' => e = .returned (.tuple #[.agg #[.int .i64 1, .int .i64 1, .int .i64 0, .int .i64 0, .int .u64 7], .int .i64 0]) ∧ Below W.heap.size W w' :=
  decode_num 7340289 1 1 0 0 7 W (by decide) (by rw [get_parts 7340289 (by decide)]) (by decide) true (by decide +kernel)
theorem word_1 (W : World) : Calls Tryd.prog 21 #[.agg #[.int .i64 1, .int .i64 1, .int .i64 0, .int .i64 0, .int .u64 7]] W fun e w' => e = .returned (.int .u64 7340289) ∧ Below W.heap.size W w' := by
  have HW : Hid (∀ W : World, Calls Tryd.prog 5 #[.agg #[.int .i64 1, .int .i64 1, .int .i64 0, .int .i64 0, .int .u64 7]] W fun e w' => e = .returned (.tuple #[.int .u64 7340289, .int .i64 0]) ∧ Below W.heap.size W w') := fun W => word_yes 1 1 0 0 7 W (by decide +kernel)
  go_enter Tryd.func21, Tryd.ntmps21
  go_wp2_with fail
  refine (HW.out _).mono ?_
  rintro e w2 ⟨rfl, hb⟩
  go_wp2
  go_ret
  exact ⟨rfl, bstep (below1 W _) (Nat.le_refl _) hb⟩
theorem dec_2 (W : World) : Calls Tryd.prog 6 #[.int .u64 66053] W fun e w' => e = .returned (.tuple #[.agg #[.int .i64 5, .int .i64 2, .int .i64 0, .int .i64 1, .int .u64 0], .int .i64 0]) ∧ Below W.heap.size W w' :=
  decode_num 66053 5 2 0 1 0 W (by decide) (by rw [get_parts 66053 (by decide)]) (by decide) true (by decide +kernel)
theorem word_2 (W : World) : Calls Tryd.prog 21 #[.agg #[.int .i64 5, .int .i64 2, .int .i64 0, .int .i64 1, .int .u64 0]] W fun e w' => e = .returned (.int .u64 66053) ∧ Below W.heap.size W w' := by
  have HW : Hid (∀ W : World, Calls Tryd.prog 5 #[.agg #[.int .i64 5, .int .i64 2, .int .i64 0, .int .i64 1, .int .u64 0]] W fun e w' => e = .returned (.tuple #[.int .u64 66053, .int .i64 0]) ∧ Below W.heap.size W w') := fun W => word_yes 5 2 0 1 0 W (by decide +kernel)
  go_enter Tryd.func21, Tryd.ntmps21
  go_wp2_with fail
  refine (HW.out _).mono ?_
  rintro e w2 ⟨rfl, hb⟩
  go_wp2
  go_ret
  exact ⟨rfl, bstep (below1 W _) (Nat.le_refl _) hb⟩
theorem dec_3 (W : World) : Calls Tryd.prog 6 #[.int .u64 0] W fun e w' => e = .returned (.tuple #[.agg #[.int .i64 0, .int .i64 0, .int .i64 0, .int .i64 0, .int .u64 0], .int .i64 0]) ∧ Below W.heap.size W w' :=
  decode_num 0 0 0 0 0 0 W (by decide) (by rw [get_parts 0 (by decide)]) (by decide) true (by decide +kernel)
theorem step_0 (c gc : Nat) (w : World) (bk : Blk w c 54 #[.int .u64 0, .int .u64 0, .int .u64 0, .int .u64 0, .int .u64 0, .int .u64 0, .int .u64 0, .int .u64 0, .int .i64 0]) (hg : gc < w.heap.size) (cx : w.cell? ⟨gc, 0, none⟩ = some (.int .u64 314572801)) :
    Calls Tryd.prog 26 #[.pointer (some ⟨c, 0, none⟩), .slice (some ⟨gc, 0, none⟩) 4 4, .agg #[.int .i64 0, .pointer none, .pointer none]] w fun e w' => e = .returned (.agg #[.int .i64 0, .int .i64 0, .int .u64 0]) ∧ w.grownBy w' (some c) ∧ Blk w' c 54 #[.int .u64 300, .int .u64 0, .int .u64 0, .int .u64 0, .int .u64 0, .int .u64 0, .int .u64 0, .int .u64 0, .int .i64 1] :=
  step_done c gc 4 0 314572801 1 0 0 0 300 0 0 0 0 0 0 0 0 300 0 0 0 0 0 0 0 w bk hg (by decide) (by decide) cx (fun W => dec_0 W) (fun W f h1 h2 h3 => do_set0 f c 300 0 0 0 0 0 0 0 0 0 W h1 h2 h3 (by decide))
theorem step_1 (c gc : Nat) (w : World) (bk : Blk w c 54 #[.int .u64 300, .int .u64 0, .int .u64 0, .int .u64 0, .int .u64 0, .int .u64 0, .int .u64 0, .int .u64 0, .int .i64 1]) (hg : gc < w.heap.size) (cx : w.cell? ⟨gc, 1, none⟩ = some (.int .u64 7340289)) :
    Calls Tryd.prog 26 #[.pointer (some ⟨c, 0, none⟩), .slice (some ⟨gc, 0, none⟩) 4 4, .agg #[.int .i64 0, .pointer none, .pointer none]] w fun e w' => e = .returned (.agg #[.int .i64 0, .int .i64 0, .int .u64 0]) ∧ w.grownBy w' (some c) ∧ Blk w' c 54 #[.int .u64 300, .int .u64 7, .int .u64 0, .int .u64 0, .int .u64 0, .int .u64 0, .int .u64 0, .int .u64 0, .int .i64 2] :=
  step_done c gc 4 1 7340289 1 1 0 0 7 300 0 0 0 0 0 0 0 300 7 0 0 0 0 0 0 w bk hg (by decide) (by decide) cx (fun W => dec_1 W) (fun W f h1 h2 h3 => do_set1 f c 7 1 300 0 0 0 0 0 0 0 W h1 h2 h3 (by decide))
theorem step_2 (c gc : Nat) (w : World) (bk : Blk w c 54 #[.int .u64 300, .int .u64 7, .int .u64 0, .int .u64 0, .int .u64 0, .int .u64 0, .int .u64 0, .int .u64 0, .int .i64 2]) (hg : gc < w.heap.size) (cx : w.cell? ⟨gc, 2, none⟩ = some (.int .u64 66053)) :
    Calls Tryd.prog 26 #[.pointer (some ⟨c, 0, none⟩), .slice (some ⟨gc, 0, none⟩) 4 4, .agg #[.int .i64 0, .pointer none, .pointer none]] w fun e w' => e = .returned (.agg #[.int .i64 0, .int .i64 0, .int .u64 0]) ∧ w.grownBy w' (some c) ∧ Blk w' c 54 #[.int .u64 300, .int .u64 7, .int .u64 42, .int .u64 0, .int .u64 0, .int .u64 0, .int .u64 0, .int .u64 0, .int .i64 3] :=
  step_done c gc 4 2 66053 5 2 0 1 0 300 7 0 0 0 0 0 0 300 7 42 0 0 0 0 0 w bk hg (by decide) (by decide) cx (fun W => dec_2 W) (fun W f h1 h2 h3 => do_div2 f c 2 0 0 0 0 0 0 W h1 h2 h3 (by decide))
theorem step_3 (c gc : Nat) (w : World) (bk : Blk w c 54 #[.int .u64 300, .int .u64 7, .int .u64 42, .int .u64 0, .int .u64 0, .int .u64 0, .int .u64 0, .int .u64 0, .int .i64 3]) (hg : gc < w.heap.size) (cx : w.cell? ⟨gc, 3, none⟩ = some (.int .u64 0)) :
    Calls Tryd.prog 26 #[.pointer (some ⟨c, 0, none⟩), .slice (some ⟨gc, 0, none⟩) 4 4, .agg #[.int .i64 0, .pointer none, .pointer none]] w fun e w' => e = .returned (.agg #[.int .i64 2, .int .i64 3, .int .u64 0]) ∧ Below w.heap.size w w' :=
  step_trap c gc 4 3 0 0 0 0 0 0 300 7 42 0 0 0 0 0 2 3 0 w bk hg (by decide) (by decide) cx (fun W => dec_3 W) (fun W f h1 h2 h3 => do_halt f c 3 300 7 42 0 0 0 0 0 W h1 h2 h3 (by decide))
set_option maxHeartbeats 4000000 in
theorem run_awake (c gc : Nat) (tg : TypeId) (w : World) (bk : Blk w c 54 #[.int .u64 0, .int .u64 0, .int .u64 0, .int .u64 0, .int .u64 0, .int .u64 0, .int .u64 0, .int .u64 0, .int .i64 0]) (hne : gc ≠ c) (bg : Blk w gc tg #[.int .u64 314572801, .int .u64 7340289, .int .u64 66053, .int .u64 0]) :
    Calls Tryd.prog 22 #[.pointer (some ⟨c, 0, none⟩), .slice (some ⟨gc, 0, none⟩) 4 4, .agg #[.int .i64 0, .pointer none, .pointer none], .int .i64 9] w fun e w' => e = .returned (.tuple #[.agg #[.int .i64 2, .int .i64 3, .int .u64 0], .int .i64 3]) ∧ w.grownBy w' (some c) ∧ Blk w' c 54 #[.int .u64 300, .int .u64 7, .int .u64 42, .int .u64 0, .int .u64 0, .int .u64 0, .int .u64 0, .int .u64 0, .int .i64 3] := by
  have hc := bk.lt
  have hG := only_alloc (only_alloc (only_refl w c) (Obj.cells #[.int .i64 0, .pointer none, .pointer none] 62)) (Obj.cells #[.int .i64 0, .int .i64 0, .int .u64 0] 56)
  have bp := (Blk.new w 62 #[.int .i64 0, .pointer none, .pointer none]).alloc (Obj.cells #[.int .i64 0, .int .i64 0, .int .u64 0] 56)
  have bt := Blk.new' (w.alloc (Obj.cells #[.int .i64 0, .pointer none, .pointer none] 62)) 56 #[.int .i64 0, .int .i64 0, .int .u64 0] (g := w.heap.size + 1) (by simp)
  replace bk := (bk.alloc (Obj.cells #[.int .i64 0, .pointer none, .pointer none] 62)).alloc (Obj.cells #[.int .i64 0, .int .i64 0, .int .u64 0] 56)
  replace bg := (bg.alloc (Obj.cells #[.int .i64 0, .pointer none, .pointer none] 62)).alloc (Obj.cells #[.int .i64 0, .int .i64 0, .int .u64 0] 56)
  have HE : Hid (some (w.heap.size) ≠ some c) := by intro h; injection h with h; omega
  have HE1 : Hid (some (w.heap.size + 1) ≠ some c) := by intro h; injection h with h; omega
  have HE2 : Hid (some gc ≠ some c) := by intro h; injection h with h; exact hne h
  clear hne
  go_enter Tryd.func22, Tryd.ntmps22
  go_wp2_with fail
  refine wp_loop_rounds 4 ?_
  generalize ((w.alloc (Obj.cells #[.int .i64 0, .pointer none, .pointer none] 62)).alloc (Obj.cells #[.int .i64 0, .int .i64 0, .int .u64 0] 56)) = w0 at *
  have p0 := bp.cell 0 (.int .i64 0) rfl
  have p1 := bp.cell 1 (.pointer none) rfl
  have p2 := bp.cell 2 (.pointer none) rfl
  rw [rounds_succ]
  go_wp2_with fail
  refine (step_0 c gc _ bk bg.lt (bg.cell 0 _ rfl)).mono ?_
  rintro e v0 ⟨rfl, hgr, bk_⟩
  clear p0 p1 p2 bk
  have bk := bk_.alloc (Obj.cells #[.int .i64 0, .int .i64 0, .int .u64 0] 56)
  replace bg := (bg.grown hgr HE2.out).alloc (Obj.cells #[.int .i64 0, .int .i64 0, .int .u64 0] 56)
  replace bp := (bp.grown hgr HE.out).alloc (Obj.cells #[.int .i64 0, .int .i64 0, .int .u64 0] 56)
  replace bt := (bt.grown hgr HE1.out).alloc (Obj.cells #[.int .i64 0, .int .i64 0, .int .u64 0] 56)
  replace hG := only_alloc (only_trans hG hgr) (Obj.cells #[.int .i64 0, .int .i64 0, .int .u64 0] 56)
  clear bk_ hgr
  go_wp2_with fail
  generalize v0.alloc (Obj.cells #[.int .i64 0, .int .i64 0, .int .u64 0] 56) = w1 at *
  have p0 := bp.cell 0 (.int .i64 0) rfl
  have p1 := bp.cell 1 (.pointer none) rfl
  have p2 := bp.cell 2 (.pointer none) rfl
  rw [rounds_succ]
  go_wp2_with fail
  refine (step_1 c gc _ bk bg.lt (bg.cell 1 _ rfl)).mono ?_
  rintro e v1 ⟨rfl, hgr, bk_⟩
  clear p0 p1 p2 bk
  have bk := bk_.alloc (Obj.cells #[.int .i64 0, .int .i64 0, .int .u64 0] 56)
  replace bg := (bg.grown hgr HE2.out).alloc (Obj.cells #[.int .i64 0, .int .i64 0, .int .u64 0] 56)
  replace bp := (bp.grown hgr HE.out).alloc (Obj.cells #[.int .i64 0, .int .i64 0, .int .u64 0] 56)
  replace bt := (bt.grown hgr HE1.out).alloc (Obj.cells #[.int .i64 0, .int .i64 0, .int .u64 0] 56)
  replace hG := only_alloc (only_trans hG hgr) (Obj.cells #[.int .i64 0, .int .i64 0, .int .u64 0] 56)
  clear bk_ hgr
  go_wp2_with fail
  generalize v1.alloc (Obj.cells #[.int .i64 0, .int .i64 0, .int .u64 0] 56) = w2 at *
  have p0 := bp.cell 0 (.int .i64 0) rfl
  have p1 := bp.cell 1 (.pointer none) rfl
  have p2 := bp.cell 2 (.pointer none) rfl
  rw [rounds_succ]
  go_wp2_with fail
  refine (step_2 c gc _ bk bg.lt (bg.cell 2 _ rfl)).mono ?_
  rintro e v2 ⟨rfl, hgr, bk_⟩
  clear p0 p1 p2 bk
  have bk := bk_.alloc (Obj.cells #[.int .i64 0, .int .i64 0, .int .u64 0] 56)
  replace bg := (bg.grown hgr HE2.out).alloc (Obj.cells #[.int .i64 0, .int .i64 0, .int .u64 0] 56)
  replace bp := (bp.grown hgr HE.out).alloc (Obj.cells #[.int .i64 0, .int .i64 0, .int .u64 0] 56)
  replace bt := (bt.grown hgr HE1.out).alloc (Obj.cells #[.int .i64 0, .int .i64 0, .int .u64 0] 56)
  replace hG := only_alloc (only_trans hG hgr) (Obj.cells #[.int .i64 0, .int .i64 0, .int .u64 0] 56)
  clear bk_ hgr
  go_wp2_with fail
  generalize v2.alloc (Obj.cells #[.int .i64 0, .int .i64 0, .int .u64 0] 56) = w3 at *
  have p0 := bp.cell 0 (.int .i64 0) rfl
  have p1 := bp.cell 1 (.pointer none) rfl
  have p2 := bp.cell 2 (.pointer none) rfl
  rw [rounds_succ]
  go_wp2_with fail
  refine (step_3 c gc _ bk bg.lt (bg.cell 3 _ rfl)).mono ?_
  rintro e v3 ⟨rfl, hb⟩
  clear p0 p1 p2
  replace bk := bk.keep hb
  replace bt := bt.keep hb
  replace hG := only_below hG hb
  clear hb bp bg
  have k0 := bt.cell 0 (.int .i64 0) rfl
  have k1 := bt.cell 1 (.int .i64 0) rfl
  have k2 := bt.cell 2 (.int .u64 0) rfl
  have l0 := bt.frozen 0
  have l1 := bt.frozen 1
  have l2 := bt.frozen 2
  have hlt := bt.lt
  go_wp2_with fail
  have hG5 := only_alloc (only_far (only_far (only_far (hG) (p := ⟨w.heap.size + 1, 0, none⟩) (by simp) (.int .i64 2)) (p := ⟨w.heap.size + 1, 1, none⟩) (by simp) (.int .i64 3)) (p := ⟨w.heap.size + 1, 2, none⟩) (by simp) (.int .u64 0)) (Obj.cells #[.int .i64 2, .int .i64 3, .int .u64 0] 56)
  have hK5 := ((((bk).far (p := ⟨w.heap.size + 1, 0, none⟩) (by simp; omega) (.int .i64 2)).far (p := ⟨w.heap.size + 1, 1, none⟩) (by simp; omega) (.int .i64 3)).far (p := ⟨w.heap.size + 1, 2, none⟩) (by simp; omega) (.int .u64 0)).alloc (Obj.cells #[.int .i64 2, .int .i64 3, .int .u64 0] 56)
  exact bodyPost_ret (v := .tuple #[.agg #[.int .i64 2, .int .i64 3, .int .u64 0], .int .i64 3]) (by simp [results, Tryd.results22, go_sem, *]) rfl ⟨rfl, hG5, hK5⟩
set_option maxHeartbeats 4000000 in
theorem awake_any (w : World) : Calls Tryd.prog 12 #[] w fun e w' => e = .returned (.bool true) ∧ Below w.heap.size w w' := by
  go_enter Tryd.func12, Tryd.ntmps12
  go_wp2_with fail
  refine (word_0 _).mono ?_
  rintro e w1 ⟨rfl, hB⟩
  go_wp2_with fail
  refine (word_1 _).mono ?_
  rintro e w2 ⟨rfl, hb⟩
  replace hB := bstep hB (Nat.le_refl _) hb
  clear hb
  go_wp2_with fail
  refine (word_2 _).mono ?_
  rintro e w3 ⟨rfl, hb⟩
  replace hB := bstep hB (Nat.le_refl _) hb
  clear hb
  go_wp2_with fail
  have bg := (Blk.new w3 22 #[.int .u64 314572801, .int .u64 7340289, .int .u64 66053, .int .u64 0]).alloc (Obj.cells #[.int .u64 0, .int .u64 0, .int .u64 0, .int .u64 0, .int .u64 0, .int .u64 0, .int .u64 0, .int .u64 0, .int .i64 0] 54)
  have bk := Blk.new' (w3.alloc (Obj.cells #[.int .u64 314572801, .int .u64 7340289, .int .u64 66053, .int .u64 0] 22)) 54 #[.int .u64 0, .int .u64 0, .int .u64 0, .int .u64 0, .int .u64 0, .int .u64 0, .int .u64 0, .int .u64 0, .int .i64 0] (g := w3.heap.size + 1) (by simp)
  have hs := hB.size
  replace hB := (hB.alloc hs (Obj.cells #[.int .u64 314572801, .int .u64 7340289, .int .u64 66053, .int .u64 0] 22)).alloc (by simp; omega) (Obj.cells #[.int .u64 0, .int .u64 0, .int .u64 0, .int .u64 0, .int .u64 0, .int .u64 0, .int .u64 0, .int .u64 0, .int .i64 0] 54)
  generalize ((w3.alloc (Obj.cells #[.int .u64 314572801, .int .u64 7340289, .int .u64 66053, .int .u64 0] 22)).alloc (Obj.cells #[.int .u64 0, .int .u64 0, .int .u64 0, .int .u64 0, .int .u64 0, .int .u64 0, .int .u64 0, .int .u64 0, .int .i64 0] 54)) = w4 at *
  refine (run_awake (w3.heap.size + 1) w3.heap.size 22 w4 bk (by omega) bg).mono ?_
  rintro e w5 ⟨rfl, hgr, bk2⟩
  have hX := hB.grown hgr hB.size (fun k hk => by injection hk with hk; omega)
  have q2 := bk2.cell 2 (.int .u64 42) rfl
  have hlt := bk2.lt
  clear bk bg hB hgr
  go_wp2_with fail
  go_ret
  exact ⟨rfl, hX.alloc hX.size _⟩
end Go.Proofs.YtpimflmmfnffeaaDoor
