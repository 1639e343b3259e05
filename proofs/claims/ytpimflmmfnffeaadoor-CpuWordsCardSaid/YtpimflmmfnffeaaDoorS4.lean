/- Walks: what Step does, where the instruction is done; where it is given up. -/
import Derived.Test.YtpimflmmfnffeaaDoorS3
namespace Go.Proofs.YtpimflmmfnffeaaDoor
open Go.RowKit

set_option maxHeartbeats 2000000 in
theorem step_done (c gc n k x : Nat) (n0 n1 n2 n3 n4 : Nat) (r0 r1 r2 r3 r4 r5 r6 r7 s0 s1 s2 s3 s4 s5 s6 s7 : Int) (w : World) (bk : Blk w c 54 #[.int .u64 r0, .int .u64 r1, .int .u64 r2, .int .u64 r3, .int .u64 r4, .int .u64 r5, .int .u64 r6, .int .u64 r7, .int .i64 k]) (hg : gc < w.heap.size) (hk : k < n) (hn : n < 1000000000) (cx : w.cell? ⟨gc, k, none⟩ = some (.int .u64 x))
    (HD : Hid (∀ W : World, Calls Tryd.prog 6 #[.int .u64 x] W fun e w' => e = .returned (.tuple #[.agg #[.int .i64 n0, .int .i64 n1, .int .i64 n2, .int .i64 n3, .int .u64 n4], .int .i64 0]) ∧ Below W.heap.size W w'))
    (HO : Hid (∀ (W : World) (f : Nat), W.cell? ⟨f, 0, none⟩ = some (.pointer (some ⟨c, 0, none⟩)) → Blk W c 54 #[.int .u64 r0, .int .u64 r1, .int .u64 r2, .int .u64 r3, .int .u64 r4, .int .u64 r5, .int .u64 r6, .int .u64 r7, .int .i64 k] → f < W.heap.size → Calls Tryd.prog 30 #[.pointer (some ⟨f, 0, none⟩), .agg #[.int .i64 n0, .int .i64 n1, .int .i64 n2, .int .i64 n3, .int .u64 n4]] W fun e w' => e = .returned (.tuple #[.int .i64 (k + 1), .agg #[.int .i64 0, .int .i64 0, .int .u64 0]]) ∧ W.grownBy w' (some c) ∧ Blk w' c 54 #[.int .u64 s0, .int .u64 s1, .int .u64 s2, .int .u64 s3, .int .u64 s4, .int .u64 s5, .int .u64 s6, .int .u64 s7, .int .i64 k])) :
    Calls Tryd.prog 26 #[.pointer (some ⟨c, 0, none⟩), .slice (some ⟨gc, 0, none⟩) n n, .agg #[.int .i64 0, .pointer none, .pointer none]] w fun e w' => e = .returned (.agg #[.int .i64 0, .int .i64 0, .int .u64 0]) ∧ w.grownBy w' (some c) ∧ Blk w' c 54 #[.int .u64 s0, .int .u64 s1, .int .u64 s2, .int .u64 s3, .int .u64 s4, .int .u64 s5, .int .u64 s6, .int .u64 s7, .int .i64 (k + 1)] := by
  have hmf : ∀ (fn : Fn) (first cap : Array Value) (w : World), (Instr.makeFunc fn first cap).run Tryd.prog w = .ok (.func fn first cap) w := fun _ _ _ _ => rfl
  have hc := bk.lt
  have hB : Below w.heap.size w (((w.alloc (Obj.cells #[.int .i64 0, .pointer none, .pointer none] 62)).alloc (Obj.cells #[.int .i64 0, .int .i64 0, .int .u64 0] 56)).alloc (Obj.cells #[.pointer (some ⟨c, 0, none⟩), .slice (some ⟨gc, 0, none⟩) n n, .int .i64 0, .pointer none, .pointer none] 73)) := ((below1 w (Obj.cells #[.int .i64 0, .pointer none, .pointer none] 62)).alloc (by simp) _).alloc (by simp; omega) _
  have bt := (Blk.new' (w.alloc (Obj.cells #[.int .i64 0, .pointer none, .pointer none] 62)) 56 #[.int .i64 0, .int .i64 0, .int .u64 0] (g := w.heap.size + 1) (by simp)).alloc (Obj.cells #[.pointer (some ⟨c, 0, none⟩), .slice (some ⟨gc, 0, none⟩) n n, .int .i64 0, .pointer none, .pointer none] 73)
  have bf := Blk.new' ((w.alloc (Obj.cells #[.int .i64 0, .pointer none, .pointer none] 62)).alloc (Obj.cells #[.int .i64 0, .int .i64 0, .int .u64 0] 56)) 73 #[.pointer (some ⟨c, 0, none⟩), .slice (some ⟨gc, 0, none⟩) n n, .int .i64 0, .pointer none, .pointer none] (g := w.heap.size + 1 + 1) (by simp)
  go_enter_defers Tryd.func26, Tryd.ntmps26
  go_wp2_with fail
  generalize (((w.alloc (Obj.cells #[.int .i64 0, .pointer none, .pointer none] 62)).alloc (Obj.cells #[.int .i64 0, .int .i64 0, .int .u64 0] 56)).alloc (Obj.cells #[.pointer (some ⟨c, 0, none⟩), .slice (some ⟨gc, 0, none⟩) n n, .int .i64 0, .pointer none, .pointer none] 73)) = w1 at *
  replace bk := bk.keep hB
  replace cx := kcell hB cx
  have hs := hB.size
  refine (fetch_yes (w.heap.size + 1 + 1) c gc n k x n0 n1 n2 n3 n4 w1 (bf.cell 0 _ rfl) (bf.cell 1 _ rfl) (bk.cell 8 _ rfl) bf.lt bk.lt (by omega) hk hn cx HD).mono ?_
  rintro e w2 ⟨rfl, hb⟩
  replace bk := bk.keep hb
  replace bf := bf.keep hb
  replace bt := bt.keep hb
  replace hB := bstep hB (Nat.le_refl _) hb
  clear hb cx hs
  go_wp2_with fail
  refine (HO.out w2 _ (bf.cell 0 _ rfl) bk bf.lt).mono ?_
  rintro e w3 ⟨rfl, hgr, bk2⟩
  replace bt := bt.grown hgr (by intro h; injection h with h; omega)
  have hG := only_trans (only_below (only_refl w c) hB) hgr
  have q8 := bk2.cell 8 (.int .i64 k) rfl
  have g8 := bk2.frozen 8
  have k0 := bt.cell 0 (.int .i64 0) rfl
  have k1 := bt.cell 1 (.int .i64 0) rfl
  have k2 := bt.cell 2 (.int .u64 0) rfl
  have l0 := bt.frozen 0
  have l1 := bt.frozen 1
  have l2 := bt.frozen 2
  clear HD HO hgr bk bf
  go_wp2_with fail
  clear q8 g8 k0 k1 k2 l0 l1 l2
  refine leaves_cons (f := 29) (args := #[.pointer (some ⟨w.heap.size + 1, 0, none⟩)]) (by simp) (by simp [go_sem]) ?_
  refine (catch_idle _ _).mono ?_
  rintro e u' w'' ⟨rfl, rfl, rfl⟩
  have hG5 : w.grownBy (((((((w3.setCell ⟨c, 8, none⟩ (.int .i64 (k + 1))).setCell ⟨w.heap.size + 1, 0, none⟩ (.int .i64 0)).setCell ⟨w.heap.size + 1, 1, none⟩ (.int .i64 0)).setCell ⟨w.heap.size + 1, 2, none⟩ (.int .u64 0)).setCell ⟨w.heap.size + 1, 0, none⟩ (.int .i64 0)).setCell ⟨w.heap.size + 1, 1, none⟩ (.int .i64 0)).setCell ⟨w.heap.size + 1, 2, none⟩ (.int .u64 0)) (some c) := (only_far ((only_far ((only_far ((only_far ((only_far ((only_far (only_set hG 8 (.int .i64 (k + 1))) (p := ⟨w.heap.size + 1, 0, none⟩) (by simp) (.int .i64 0))) (p := ⟨w.heap.size + 1, 1, none⟩) (by simp) (.int .i64 0))) (p := ⟨w.heap.size + 1, 2, none⟩) (by simp) (.int .u64 0))) (p := ⟨w.heap.size + 1, 0, none⟩) (by simp) (.int .i64 0))) (p := ⟨w.heap.size + 1, 1, none⟩) (by simp) (.int .i64 0))) (p := ⟨w.heap.size + 1, 2, none⟩) (by simp) (.int .u64 0))
  have hK5 : Blk (((((((w3.setCell ⟨c, 8, none⟩ (.int .i64 (k + 1))).setCell ⟨w.heap.size + 1, 0, none⟩ (.int .i64 0)).setCell ⟨w.heap.size + 1, 1, none⟩ (.int .i64 0)).setCell ⟨w.heap.size + 1, 2, none⟩ (.int .u64 0)).setCell ⟨w.heap.size + 1, 0, none⟩ (.int .i64 0)).setCell ⟨w.heap.size + 1, 1, none⟩ (.int .i64 0)).setCell ⟨w.heap.size + 1, 2, none⟩ (.int .u64 0)) c 54 #[.int .u64 s0, .int .u64 s1, .int .u64 s2, .int .u64 s3, .int .u64 s4, .int .u64 s5, .int .u64 s6, .int .u64 s7, .int .i64 (k + 1)] := (((((((bk2.set_ 8 (.int .i64 (k + 1))).far (p := ⟨w.heap.size + 1, 0, none⟩) (by simp; omega) (.int .i64 0)).far (p := ⟨w.heap.size + 1, 1, none⟩) (by simp; omega) (.int .i64 0)).far (p := ⟨w.heap.size + 1, 2, none⟩) (by simp; omega) (.int .u64 0)).far (p := ⟨w.heap.size + 1, 0, none⟩) (by simp; omega) (.int .i64 0)).far (p := ⟨w.heap.size + 1, 1, none⟩) (by simp; omega) (.int .i64 0)).far (p := ⟨w.heap.size + 1, 2, none⟩) (by simp; omega) (.int .u64 0))
  have bt5 : Blk (((((((w3.setCell ⟨c, 8, none⟩ (.int .i64 (k + 1))).setCell ⟨w.heap.size + 1, 0, none⟩ (.int .i64 0)).setCell ⟨w.heap.size + 1, 1, none⟩ (.int .i64 0)).setCell ⟨w.heap.size + 1, 2, none⟩ (.int .u64 0)).setCell ⟨w.heap.size + 1, 0, none⟩ (.int .i64 0)).setCell ⟨w.heap.size + 1, 1, none⟩ (.int .i64 0)).setCell ⟨w.heap.size + 1, 2, none⟩ (.int .u64 0)) (w.heap.size + 1) 56 #[.int .i64 0, .int .i64 0, .int .u64 0] := (((((((bt.far (p := ⟨c, 8, none⟩) (by simp; omega) (.int .i64 (k + 1))).set_ 0 (.int .i64 0)).set_ 1 (.int .i64 0)).set_ 2 (.int .u64 0)).set_ 0 (.int .i64 0)).set_ 1 (.int .i64 0)).set_ 2 (.int .u64 0))
  generalize (((((((w3.setCell ⟨c, 8, none⟩ (.int .i64 (k + 1))).setCell ⟨w.heap.size + 1, 0, none⟩ (.int .i64 0)).setCell ⟨w.heap.size + 1, 1, none⟩ (.int .i64 0)).setCell ⟨w.heap.size + 1, 2, none⟩ (.int .u64 0)).setCell ⟨w.heap.size + 1, 0, none⟩ (.int .i64 0)).setCell ⟨w.heap.size + 1, 1, none⟩ (.int .i64 0)).setCell ⟨w.heap.size + 1, 2, none⟩ (.int .u64 0)) = w5 at *
  have k0 := bt5.cell 0 (.int .i64 0) rfl
  have k1 := bt5.cell 1 (.int .i64 0) rfl
  have k2 := bt5.cell 2 (.int .u64 0) rfl
  simp [Leaves, settle, results, Tryd.results26, go_sem, k0, k1, k2]
  exact ⟨hG5, hK5⟩

set_option maxHeartbeats 2000000 in
theorem step_trap (c gc n k x : Nat) (n0 n1 n2 n3 n4 : Nat) (r0 r1 r2 r3 r4 r5 r6 r7 K A X : Int) (w : World) (bk : Blk w c 54 #[.int .u64 r0, .int .u64 r1, .int .u64 r2, .int .u64 r3, .int .u64 r4, .int .u64 r5, .int .u64 r6, .int .u64 r7, .int .i64 k]) (hg : gc < w.heap.size) (hk : k < n) (hn : n < 1000000000) (cx : w.cell? ⟨gc, k, none⟩ = some (.int .u64 x))
    (HD : Hid (∀ W : World, Calls Tryd.prog 6 #[.int .u64 x] W fun e w' => e = .returned (.tuple #[.agg #[.int .i64 n0, .int .i64 n1, .int .i64 n2, .int .i64 n3, .int .u64 n4], .int .i64 0]) ∧ Below W.heap.size W w'))
    (HO : Hid (∀ (W : World) (f : Nat), W.cell? ⟨f, 0, none⟩ = some (.pointer (some ⟨c, 0, none⟩)) → Blk W c 54 #[.int .u64 r0, .int .u64 r1, .int .u64 r2, .int .u64 r3, .int .u64 r4, .int .u64 r5, .int .u64 r6, .int .u64 r7, .int .i64 k] → f < W.heap.size → Calls Tryd.prog 30 #[.pointer (some ⟨f, 0, none⟩), .agg #[.int .i64 n0, .int .i64 n1, .int .i64 n2, .int .i64 n3, .int .u64 n4]] W fun e w' => e = .panicked [{ v := .iface 56 (.agg #[.int .i64 K, .int .i64 A, .int .u64 X]), recovered := false }] ∧ Below W.heap.size W w')) :
    Calls Tryd.prog 26 #[.pointer (some ⟨c, 0, none⟩), .slice (some ⟨gc, 0, none⟩) n n, .agg #[.int .i64 0, .pointer none, .pointer none]] w fun e w' => e = .returned (.agg #[.int .i64 K, .int .i64 A, .int .u64 X]) ∧ Below w.heap.size w w' := by
  have hmf : ∀ (fn : Fn) (first cap : Array Value) (w : World), (Instr.makeFunc fn first cap).run Tryd.prog w = .ok (.func fn first cap) w := fun _ _ _ _ => rfl
  have hc := bk.lt
  have hB : Below w.heap.size w (((w.alloc (Obj.cells #[.int .i64 0, .pointer none, .pointer none] 62)).alloc (Obj.cells #[.int .i64 0, .int .i64 0, .int .u64 0] 56)).alloc (Obj.cells #[.pointer (some ⟨c, 0, none⟩), .slice (some ⟨gc, 0, none⟩) n n, .int .i64 0, .pointer none, .pointer none] 73)) := ((below1 w (Obj.cells #[.int .i64 0, .pointer none, .pointer none] 62)).alloc (by simp) _).alloc (by simp; omega) _
  have bt := (Blk.new' (w.alloc (Obj.cells #[.int .i64 0, .pointer none, .pointer none] 62)) 56 #[.int .i64 0, .int .i64 0, .int .u64 0] (g := w.heap.size + 1) (by simp)).alloc (Obj.cells #[.pointer (some ⟨c, 0, none⟩), .slice (some ⟨gc, 0, none⟩) n n, .int .i64 0, .pointer none, .pointer none] 73)
  have bf := Blk.new' ((w.alloc (Obj.cells #[.int .i64 0, .pointer none, .pointer none] 62)).alloc (Obj.cells #[.int .i64 0, .int .i64 0, .int .u64 0] 56)) 73 #[.pointer (some ⟨c, 0, none⟩), .slice (some ⟨gc, 0, none⟩) n n, .int .i64 0, .pointer none, .pointer none] (g := w.heap.size + 1 + 1) (by simp)
  go_enter_defers Tryd.func26, Tryd.ntmps26
  go_wp2_with fail
  generalize (((w.alloc (Obj.cells #[.int .i64 0, .pointer none, .pointer none] 62)).alloc (Obj.cells #[.int .i64 0, .int .i64 0, .int .u64 0] 56)).alloc (Obj.cells #[.pointer (some ⟨c, 0, none⟩), .slice (some ⟨gc, 0, none⟩) n n, .int .i64 0, .pointer none, .pointer none] 73)) = w1 at *
  replace bk := bk.keep hB
  replace cx := kcell hB cx
  have hs := hB.size
  refine (fetch_yes (w.heap.size + 1 + 1) c gc n k x n0 n1 n2 n3 n4 w1 (bf.cell 0 _ rfl) (bf.cell 1 _ rfl) (bk.cell 8 _ rfl) bf.lt bk.lt (by omega) hk hn cx HD).mono ?_
  rintro e w2 ⟨rfl, hb⟩
  replace bk := bk.keep hb
  replace bf := bf.keep hb
  replace bt := bt.keep hb
  replace hB := bstep hB (Nat.le_refl _) hb
  clear hb cx hs
  go_wp2_with fail
  refine (HO.out w2 _ (bf.cell 0 _ rfl) bk bf.lt).mono ?_
  rintro e w3 ⟨rfl, hb⟩
  replace bt := bt.keep hb
  replace hB := bstep hB (Nat.le_refl _) hb
  clear HD HO hb bk bf
  go_wp2_with fail
  refine leaves_cons (f := 29) (args := #[.pointer (some ⟨w.heap.size + 1, 0, none⟩)]) (by simp) (by simp [go_sem]) ?_
  refine (catch_trap _ K A X _ _ _ [] _ bt).mono ?_
  rintro e u' w'' ⟨rfl, rfl, hgr, bt5⟩
  have hX := hB.grown hgr hB.size (fun k hk => by injection hk with hk; omega)
  have k0 := bt5.cell 0 (.int .i64 K) rfl
  have k1 := bt5.cell 1 (.int .i64 A) rfl
  have k2 := bt5.cell 2 (.int .u64 X) rfl
  simp [Leaves, settle, results, Tryd.results26, go_sem, k0, k1, k2]
  exact hX
end Go.Proofs.YtpimflmmfnffeaaDoor
