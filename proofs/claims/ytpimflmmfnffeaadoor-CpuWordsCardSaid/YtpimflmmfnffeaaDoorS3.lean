/- Walks: what some instructions do. -/
import Derived.Test.YtpimflmmfnffeaaDoorS2
namespace Go.Proofs.YtpimflmmfnffeaaDoor
open Go.RowKit

theorem reckon_div (f : Nat) (w : World) : Calls Tryd.prog 35 #[.pointer (some ⟨f, 0, none⟩), .int .i64 5, .int .u64 300, .int .u64 7] w fun e w' => e = .returned (.int .u64 42) ∧ w = w' := by
  go_enter Tryd.func35, Tryd.ntmps35
  go_wp2_with fail
  go_ret
  exact ⟨rfl, rfl⟩
set_option maxHeartbeats 2000000 in
theorem do_set0 (f c : Nat) (m : Nat) (at_ : Nat) (r0 r1 r2 r3 r4 r5 r6 r7 : Int) (w : World) (cf0 : w.cell? ⟨f, 0, none⟩ = some (.pointer (some ⟨c, 0, none⟩))) (bk : Blk w c 54 #[.int .u64 r0, .int .u64 r1, .int .u64 r2, .int .u64 r3, .int .u64 r4, .int .u64 r5, .int .u64 r6, .int .u64 r7, .int .i64 at_]) (hf : f < w.heap.size) (hat : at_ < 1000000000) :
    Calls Tryd.prog 30 #[.pointer (some ⟨f, 0, none⟩), .agg #[.int .i64 1, .int .i64 0, .int .i64 0, .int .i64 0, .int .u64 m]] w fun e w' => e = .returned (.tuple #[.int .i64 (at_ + 1), .agg #[.int .i64 0, .int .i64 0, .int .u64 0]]) ∧ w.grownBy w' (some c) ∧ Blk w' c 54 #[.int .u64 m, .int .u64 r1, .int .u64 r2, .int .u64 r3, .int .u64 r4, .int .u64 r5, .int .u64 r6, .int .u64 r7, .int .i64 at_] := by
  have q0 := bk.cell 0 (.int .u64 r0) rfl
  have q1 := bk.cell 1 (.int .u64 r1) rfl
  have q2 := bk.cell 2 (.int .u64 r2) rfl
  have q3 := bk.cell 3 (.int .u64 r3) rfl
  have q4 := bk.cell 4 (.int .u64 r4) rfl
  have q5 := bk.cell 5 (.int .u64 r5) rfl
  have q6 := bk.cell 6 (.int .u64 r6) rfl
  have q7 := bk.cell 7 (.int .u64 r7) rfl
  have q8 := bk.cell 8 (.int .i64 at_) rfl
  have hc := bk.lt
  have hB := (below1 w (Obj.cells #[.int .i64 1, .int .i64 0, .int .i64 0, .int .i64 0, .int .u64 m] 27)).alloc (by simp) (Obj.cells #[.int .i64 0, .int .i64 0, .int .u64 0] 56)
  have bi := (Blk.new w 27 #[.int .i64 1, .int .i64 0, .int .i64 0, .int .i64 0, .int .u64 m]).alloc (Obj.cells #[.int .i64 0, .int .i64 0, .int .u64 0] 56)
  have bt := Blk.new' (w.alloc (Obj.cells #[.int .i64 1, .int .i64 0, .int .i64 0, .int .i64 0, .int .u64 m] 27)) 56 #[.int .i64 0, .int .i64 0, .int .u64 0] (g := w.heap.size + 1) (by simp)
  go_enter Tryd.func30, Tryd.ntmps30
  go_wp2_with fail
  generalize (w.alloc (Obj.cells #[.int .i64 1, .int .i64 0, .int .i64 0, .int .i64 0, .int .u64 m] 27)).alloc (Obj.cells #[.int .i64 0, .int .i64 0, .int .u64 0] 56) = w1 at *
  clear q0 q1 q2 q3 q4 q5 q6 q7 q8
  replace cf0 := kcell hB cf0
  replace bk := bk.keep hB
  have q0 := bk.cell 0 (.int .u64 r0) rfl
  have q1 := bk.cell 1 (.int .u64 r1) rfl
  have q2 := bk.cell 2 (.int .u64 r2) rfl
  have q3 := bk.cell 3 (.int .u64 r3) rfl
  have q4 := bk.cell 4 (.int .u64 r4) rfl
  have q5 := bk.cell 5 (.int .u64 r5) rfl
  have q6 := bk.cell 6 (.int .u64 r6) rfl
  have q7 := bk.cell 7 (.int .u64 r7) rfl
  have q8 := bk.cell 8 (.int .i64 at_) rfl
  have i0 := bi.cell 0 (.int .i64 1) rfl
  have i1 := bi.cell 1 (.int .i64 0) rfl
  have i2 := bi.cell 2 (.int .i64 0) rfl
  have i3 := bi.cell 3 (.int .i64 0) rfl
  have i4 := bi.cell 4 (.int .u64 m) rfl
  have g0 := bk.frozen 0
  go_quiet (fail)
  have k0 := bt.cell 0 (.int .i64 0) rfl
  have k1 := bt.cell 1 (.int .i64 0) rfl
  have k2 := bt.cell 2 (.int .u64 0) rfl
  have l0 := bt.frozen 0
  have l1 := bt.frozen 1
  have l2 := bt.frozen 2
  go_wp2_with fail
  have hG := only_far (only_far (only_far (only_set (only_drewN (only_below (only_refl w c) hB) nq) 0 (.int .u64 m)) (p := ⟨w.heap.size + 1, 0, none⟩) (by simp) (.int .i64 0)) (p := ⟨w.heap.size + 1, 1, none⟩) (by simp) (.int .i64 0)) (p := ⟨w.heap.size + 1, 2, none⟩) (by simp) (.int .u64 0)
  have hK := ((((bk.drewN nq).set_ 0 (.int .u64 m)).far (p := ⟨w.heap.size + 1, 0, none⟩) (by simp; omega) (.int .i64 0)).far (p := ⟨w.heap.size + 1, 1, none⟩) (by simp; omega) (.int .i64 0)).far (p := ⟨w.heap.size + 1, 2, none⟩) (by simp; omega) (.int .u64 0)
  exact bodyPost_ret (v := .tuple #[.int .i64 (at_ + 1), .agg #[.int .i64 0, .int .i64 0, .int .u64 0]]) (by simp [results, Tryd.results30, go_sem, *]) rfl ⟨rfl, hG, hK⟩
set_option maxHeartbeats 2000000 in
theorem do_set1 (f c : Nat) (m : Nat) (at_ : Nat) (r0 r1 r2 r3 r4 r5 r6 r7 : Int) (w : World) (cf0 : w.cell? ⟨f, 0, none⟩ = some (.pointer (some ⟨c, 0, none⟩))) (bk : Blk w c 54 #[.int .u64 r0, .int .u64 r1, .int .u64 r2, .int .u64 r3, .int .u64 r4, .int .u64 r5, .int .u64 r6, .int .u64 r7, .int .i64 at_]) (hf : f < w.heap.size) (hat : at_ < 1000000000) :
    Calls Tryd.prog 30 #[.pointer (some ⟨f, 0, none⟩), .agg #[.int .i64 1, .int .i64 1, .int .i64 0, .int .i64 0, .int .u64 m]] w fun e w' => e = .returned (.tuple #[.int .i64 (at_ + 1), .agg #[.int .i64 0, .int .i64 0, .int .u64 0]]) ∧ w.grownBy w' (some c) ∧ Blk w' c 54 #[.int .u64 r0, .int .u64 m, .int .u64 r2, .int .u64 r3, .int .u64 r4, .int .u64 r5, .int .u64 r6, .int .u64 r7, .int .i64 at_] := by
  have q0 := bk.cell 0 (.int .u64 r0) rfl
  have q1 := bk.cell 1 (.int .u64 r1) rfl
  have q2 := bk.cell 2 (.int .u64 r2) rfl
  have q3 := bk.cell 3 (.int .u64 r3) rfl
  have q4 := bk.cell 4 (.int .u64 r4) rfl
  have q5 := bk.cell 5 (.int .u64 r5) rfl
  have q6 := bk.cell 6 (.int .u64 r6) rfl
  have q7 := bk.cell 7 (.int .u64 r7) rfl
  have q8 := bk.cell 8 (.int .i64 at_) rfl
  have hc := bk.lt
  have hB := (below1 w (Obj.cells #[.int .i64 1, .int .i64 1, .int .i64 0, .int .i64 0, .int .u64 m] 27)).alloc (by simp) (Obj.cells #[.int .i64 0, .int .i64 0, .int .u64 0] 56)
  have bi := (Blk.new w 27 #[.int .i64 1, .int .i64 1, .int .i64 0, .int .i64 0, .int .u64 m]).alloc (Obj.cells #[.int .i64 0, .int .i64 0, .int .u64 0] 56)
  have bt := Blk.new' (w.alloc (Obj.cells #[.int .i64 1, .int .i64 1, .int .i64 0, .int .i64 0, .int .u64 m] 27)) 56 #[.int .i64 0, .int .i64 0, .int .u64 0] (g := w.heap.size + 1) (by simp)
  go_enter Tryd.func30, Tryd.ntmps30
  go_wp2_with fail
  generalize (w.alloc (Obj.cells #[.int .i64 1, .int .i64 1, .int .i64 0, .int .i64 0, .int .u64 m] 27)).alloc (Obj.cells #[.int .i64 0, .int .i64 0, .int .u64 0] 56) = w1 at *
  clear q0 q1 q2 q3 q4 q5 q6 q7 q8
  replace cf0 := kcell hB cf0
  replace bk := bk.keep hB
  have q0 := bk.cell 0 (.int .u64 r0) rfl
  have q1 := bk.cell 1 (.int .u64 r1) rfl
  have q2 := bk.cell 2 (.int .u64 r2) rfl
  have q3 := bk.cell 3 (.int .u64 r3) rfl
  have q4 := bk.cell 4 (.int .u64 r4) rfl
  have q5 := bk.cell 5 (.int .u64 r5) rfl
  have q6 := bk.cell 6 (.int .u64 r6) rfl
  have q7 := bk.cell 7 (.int .u64 r7) rfl
  have q8 := bk.cell 8 (.int .i64 at_) rfl
  have i0 := bi.cell 0 (.int .i64 1) rfl
  have i1 := bi.cell 1 (.int .i64 1) rfl
  have i2 := bi.cell 2 (.int .i64 0) rfl
  have i3 := bi.cell 3 (.int .i64 0) rfl
  have i4 := bi.cell 4 (.int .u64 m) rfl
  have g0 := bk.frozen 1
  go_quiet (fail)
  have k0 := bt.cell 0 (.int .i64 0) rfl
  have k1 := bt.cell 1 (.int .i64 0) rfl
  have k2 := bt.cell 2 (.int .u64 0) rfl
  have l0 := bt.frozen 0
  have l1 := bt.frozen 1
  have l2 := bt.frozen 2
  go_wp2_with fail
  have hG := only_far (only_far (only_far (only_set (only_drewN (only_below (only_refl w c) hB) nq) 1 (.int .u64 m)) (p := ⟨w.heap.size + 1, 0, none⟩) (by simp) (.int .i64 0)) (p := ⟨w.heap.size + 1, 1, none⟩) (by simp) (.int .i64 0)) (p := ⟨w.heap.size + 1, 2, none⟩) (by simp) (.int .u64 0)
  have hK := ((((bk.drewN nq).set_ 1 (.int .u64 m)).far (p := ⟨w.heap.size + 1, 0, none⟩) (by simp; omega) (.int .i64 0)).far (p := ⟨w.heap.size + 1, 1, none⟩) (by simp; omega) (.int .i64 0)).far (p := ⟨w.heap.size + 1, 2, none⟩) (by simp; omega) (.int .u64 0)
  exact bodyPost_ret (v := .tuple #[.int .i64 (at_ + 1), .agg #[.int .i64 0, .int .i64 0, .int .u64 0]]) (by simp [results, Tryd.results30, go_sem, *]) rfl ⟨rfl, hG, hK⟩
set_option maxHeartbeats 2000000 in
theorem do_div2 (f c : Nat) (at_ : Nat) (r2 r3 r4 r5 r6 r7 : Int) (w : World) (cf0 : w.cell? ⟨f, 0, none⟩ = some (.pointer (some ⟨c, 0, none⟩))) (bk : Blk w c 54 #[.int .u64 300, .int .u64 7, .int .u64 r2, .int .u64 r3, .int .u64 r4, .int .u64 r5, .int .u64 r6, .int .u64 r7, .int .i64 at_]) (hf : f < w.heap.size) (hat : at_ < 1000000000) :
    Calls Tryd.prog 30 #[.pointer (some ⟨f, 0, none⟩), .agg #[.int .i64 5, .int .i64 2, .int .i64 0, .int .i64 1, .int .u64 0]] w fun e w' => e = .returned (.tuple #[.int .i64 (at_ + 1), .agg #[.int .i64 0, .int .i64 0, .int .u64 0]]) ∧ w.grownBy w' (some c) ∧ Blk w' c 54 #[.int .u64 300, .int .u64 7, .int .u64 42, .int .u64 r3, .int .u64 r4, .int .u64 r5, .int .u64 r6, .int .u64 r7, .int .i64 at_] := by
  have q0 := bk.cell 0 (.int .u64 300) rfl
  have q1 := bk.cell 1 (.int .u64 7) rfl
  have q2 := bk.cell 2 (.int .u64 r2) rfl
  have q3 := bk.cell 3 (.int .u64 r3) rfl
  have q4 := bk.cell 4 (.int .u64 r4) rfl
  have q5 := bk.cell 5 (.int .u64 r5) rfl
  have q6 := bk.cell 6 (.int .u64 r6) rfl
  have q7 := bk.cell 7 (.int .u64 r7) rfl
  have q8 := bk.cell 8 (.int .i64 at_) rfl
  have hc := bk.lt
  have hB := (below1 w (Obj.cells #[.int .i64 5, .int .i64 2, .int .i64 0, .int .i64 1, .int .u64 0] 27)).alloc (by simp) (Obj.cells #[.int .i64 0, .int .i64 0, .int .u64 0] 56)
  have bi := (Blk.new w 27 #[.int .i64 5, .int .i64 2, .int .i64 0, .int .i64 1, .int .u64 0]).alloc (Obj.cells #[.int .i64 0, .int .i64 0, .int .u64 0] 56)
  have bt := Blk.new' (w.alloc (Obj.cells #[.int .i64 5, .int .i64 2, .int .i64 0, .int .i64 1, .int .u64 0] 27)) 56 #[.int .i64 0, .int .i64 0, .int .u64 0] (g := w.heap.size + 1) (by simp)
  go_enter Tryd.func30, Tryd.ntmps30
  go_wp2_with fail
  generalize (w.alloc (Obj.cells #[.int .i64 5, .int .i64 2, .int .i64 0, .int .i64 1, .int .u64 0] 27)).alloc (Obj.cells #[.int .i64 0, .int .i64 0, .int .u64 0] 56) = w1 at *
  clear q0 q1 q2 q3 q4 q5 q6 q7 q8
  replace cf0 := kcell hB cf0
  replace bk := bk.keep hB
  have q0 := bk.cell 0 (.int .u64 300) rfl
  have q1 := bk.cell 1 (.int .u64 7) rfl
  have q2 := bk.cell 2 (.int .u64 r2) rfl
  have q3 := bk.cell 3 (.int .u64 r3) rfl
  have q4 := bk.cell 4 (.int .u64 r4) rfl
  have q5 := bk.cell 5 (.int .u64 r5) rfl
  have q6 := bk.cell 6 (.int .u64 r6) rfl
  have q7 := bk.cell 7 (.int .u64 r7) rfl
  have q8 := bk.cell 8 (.int .i64 at_) rfl
  have i0 := bi.cell 0 (.int .i64 5) rfl
  have i1 := bi.cell 1 (.int .i64 2) rfl
  have i2 := bi.cell 2 (.int .i64 0) rfl
  have i3 := bi.cell 3 (.int .i64 1) rfl
  have i4 := bi.cell 4 (.int .u64 0) rfl
  have g0 := bk.frozen 2
  go_quiet (fail)
  have k0 := bt.cell 0 (.int .i64 0) rfl
  have k1 := bt.cell 1 (.int .i64 0) rfl
  have k2 := bt.cell 2 (.int .u64 0) rfl
  have l0 := bt.frozen 0
  have l1 := bt.frozen 1
  have l2 := bt.frozen 2
  go_wp2_with (go_at_call 35; refine (reckon_div _ _).mono ?_; rintro e w3 ⟨rfl, rfl⟩)
  have hG := only_far (only_far (only_far (only_set (only_drewN (only_below (only_refl w c) hB) nq) 2 (.int .u64 42)) (p := ⟨w.heap.size + 1, 0, none⟩) (by simp) (.int .i64 0)) (p := ⟨w.heap.size + 1, 1, none⟩) (by simp) (.int .i64 0)) (p := ⟨w.heap.size + 1, 2, none⟩) (by simp) (.int .u64 0)
  have hK := ((((bk.drewN nq).set_ 2 (.int .u64 42)).far (p := ⟨w.heap.size + 1, 0, none⟩) (by simp; omega) (.int .i64 0)).far (p := ⟨w.heap.size + 1, 1, none⟩) (by simp; omega) (.int .i64 0)).far (p := ⟨w.heap.size + 1, 2, none⟩) (by simp; omega) (.int .u64 0)
  exact bodyPost_ret (v := .tuple #[.int .i64 (at_ + 1), .agg #[.int .i64 0, .int .i64 0, .int .u64 0]]) (by simp [results, Tryd.results30, go_sem, *]) rfl ⟨rfl, hG, hK⟩
set_option maxHeartbeats 2000000 in
theorem do_halt (f c : Nat) (at_ : Nat) (r0 r1 r2 r3 r4 r5 r6 r7 : Int) (w : World) (cf0 : w.cell? ⟨f, 0, none⟩ = some (.pointer (some ⟨c, 0, none⟩))) (bk : Blk w c 54 #[.int .u64 r0, .int .u64 r1, .int .u64 r2, .int .u64 r3, .int .u64 r4, .int .u64 r5, .int .u64 r6, .int .u64 r7, .int .i64 at_]) (hf : f < w.heap.size) (hat : at_ < 1000000000) :
    Calls Tryd.prog 30 #[.pointer (some ⟨f, 0, none⟩), .agg #[.int .i64 0, .int .i64 0, .int .i64 0, .int .i64 0, .int .u64 0]] w fun e w' => e = .panicked [{ v := .iface 56 (.agg #[.int .i64 2, .int .i64 at_, .int .u64 0]), recovered := false }] ∧ Below w.heap.size w w' := by
  have q0 := bk.cell 0 (.int .u64 r0) rfl
  have q1 := bk.cell 1 (.int .u64 r1) rfl
  have q2 := bk.cell 2 (.int .u64 r2) rfl
  have q3 := bk.cell 3 (.int .u64 r3) rfl
  have q4 := bk.cell 4 (.int .u64 r4) rfl
  have q5 := bk.cell 5 (.int .u64 r5) rfl
  have q6 := bk.cell 6 (.int .u64 r6) rfl
  have q7 := bk.cell 7 (.int .u64 r7) rfl
  have q8 := bk.cell 8 (.int .i64 at_) rfl
  have hc := bk.lt
  have hB := (below1 w (Obj.cells #[.int .i64 0, .int .i64 0, .int .i64 0, .int .i64 0, .int .u64 0] 27)).alloc (by simp) (Obj.cells #[.int .i64 0, .int .i64 0, .int .u64 0] 56)
  have bi := (Blk.new w 27 #[.int .i64 0, .int .i64 0, .int .i64 0, .int .i64 0, .int .u64 0]).alloc (Obj.cells #[.int .i64 0, .int .i64 0, .int .u64 0] 56)
  have bt := Blk.new' (w.alloc (Obj.cells #[.int .i64 0, .int .i64 0, .int .i64 0, .int .i64 0, .int .u64 0] 27)) 56 #[.int .i64 0, .int .i64 0, .int .u64 0] (g := w.heap.size + 1) (by simp)
  go_enter Tryd.func30, Tryd.ntmps30
  go_wp2_with fail
  generalize (w.alloc (Obj.cells #[.int .i64 0, .int .i64 0, .int .i64 0, .int .i64 0, .int .u64 0] 27)).alloc (Obj.cells #[.int .i64 0, .int .i64 0, .int .u64 0] 56) = w1 at *
  clear q0 q1 q2 q3 q4 q5 q6 q7 q8
  replace cf0 := kcell hB cf0
  replace bk := bk.keep hB
  have q0 := bk.cell 0 (.int .u64 r0) rfl
  have q1 := bk.cell 1 (.int .u64 r1) rfl
  have q2 := bk.cell 2 (.int .u64 r2) rfl
  have q3 := bk.cell 3 (.int .u64 r3) rfl
  have q4 := bk.cell 4 (.int .u64 r4) rfl
  have q5 := bk.cell 5 (.int .u64 r5) rfl
  have q6 := bk.cell 6 (.int .u64 r6) rfl
  have q7 := bk.cell 7 (.int .u64 r7) rfl
  have q8 := bk.cell 8 (.int .i64 at_) rfl
  have i0 := bi.cell 0 (.int .i64 0) rfl
  have i1 := bi.cell 1 (.int .i64 0) rfl
  have i2 := bi.cell 2 (.int .i64 0) rfl
  have i3 := bi.cell 3 (.int .i64 0) rfl
  have i4 := bi.cell 4 (.int .u64 0) rfl
  have g0 := bk.frozen 0
  go_quiet (fail)
  have k0 := bt.cell 0 (.int .i64 0) rfl
  have k1 := bt.cell 1 (.int .i64 0) rfl
  have k2 := bt.cell 2 (.int .u64 0) rfl
  have l0 := bt.frozen 0
  have l1 := bt.frozen 1
  have l2 := bt.frozen 2
  go_wp2_with fail
  refine (give_any f c 2 0 at_ (w1.drewN nq) (by exact cf0) (by exact q8)).mono ?_
  rintro e w3 ⟨rfl, rfl⟩
  simp only [bodyPost]
  exact ⟨rfl, rfl, bdrewN hB _⟩
end Go.Proofs.YtpimflmmfnffeaaDoor
