/- Walks: what a processor fetches and does. -/
import Derived.Test.YtpimflmmfnffeaaDoorS1
namespace Go.Proofs.YtpimflmmfnffeaaDoor
open Go.RowKit

theorem only_far {a w : World} {g : Nat} (h : a.grownBy w (some g)) {p : Addr} (hp : a.heap.size ≤ p.block) (u : Value) : a.grownBy (w.setCell p u) (some g) :=
  ⟨h.os, h.tape, h.output, by simpa [World.setCell] using h.size, fun k hk hne => (Below.heap_setCell w p u k (by omega)).trans (h.block k hk hne)⟩
set_option maxHeartbeats 2000000 in
theorem fetch_yes (f c gc n k x : Nat) (n0 n1 n2 n3 n4 : Nat) (w : World) (cf0 : w.cell? ⟨f, 0, none⟩ = some (.pointer (some ⟨c, 0, none⟩))) (cf1 : w.cell? ⟨f, 1, none⟩ = some (.slice (some ⟨gc, 0, none⟩) n n)) (ca : w.cell? ⟨c, 8, none⟩ = some (.int .i64 k)) (hf : f < w.heap.size) (hc : c < w.heap.size) (hg : gc < w.heap.size) (hk : k < n) (hn : n < 1000000000) (cx : w.cell? ⟨gc, k, none⟩ = some (.int .u64 x))
    (HD : Hid (∀ W : World, Calls Tryd.prog 6 #[.int .u64 x] W fun e w' => e = .returned (.tuple #[.agg #[.int .i64 n0, .int .i64 n1, .int .i64 n2, .int .i64 n3, .int .u64 n4], .int .i64 0]) ∧ Below W.heap.size W w')) :
    Calls Tryd.prog 31 #[.pointer (some ⟨f, 0, none⟩)] w fun e w' => e = .returned (.agg #[.int .i64 n0, .int .i64 n1, .int .i64 n2, .int .i64 n3, .int .u64 n4]) ∧ Below w.heap.size w w' := by
  have hB := below1 w (Obj.cells #[.int .i64 0, .int .i64 0, .int .i64 0, .int .i64 0, .int .u64 0] 27)
  have bk := Blk.new w 27 #[.int .i64 0, .int .i64 0, .int .i64 0, .int .i64 0, .int .u64 0]
  replace cf0 := kcell hB cf0
  replace cf1 := kcell hB cf1
  replace ca := kcell hB ca
  replace cx := kcell hB cx
  go_enter Tryd.func31, Tryd.ntmps31
  go_wp2_with fail
  generalize w.alloc (Obj.cells #[.int .i64 0, .int .i64 0, .int .i64 0, .int .i64 0, .int .u64 0] 27) = w1 at *
  go_quiet (fail)
  go_wp2_with fail
  go_quiet (fail)
  go_wp2_with fail
  refine (HD.out _).mono ?_
  rintro e w2 ⟨rfl, hb⟩
  replace bk := (bk.drewN _).keep hb
  replace hB := bstep (bdrewN hB _) (Nat.le_refl _) hb
  clear hb cf0 cf1 ca cx
  have hlt := bk.lt
  have bk4 := Blk.new w2 27 #[.int .i64 n0, .int .i64 n1, .int .i64 n2, .int .i64 n3, .int .u64 n4]
  have z0 := bk.cell 0 (.int .i64 0) rfl
  have z1 := bk.cell 1 (.int .i64 0) rfl
  have z2 := bk.cell 2 (.int .i64 0) rfl
  have z3 := bk.cell 3 (.int .i64 0) rfl
  have z4 := bk.cell 4 (.int .u64 0) rfl
  have f0 := bk.frozen 0
  have f1 := bk.frozen 1
  have f2 := bk.frozen 2
  have f3 := bk.frozen 3
  have f4 := bk.frozen 4
  go_wp2_with fail
  have hX := (hB.grown (only_set5 w2 w.heap.size (.int .i64 n0) (.int .i64 n1) (.int .i64 n2) (.int .i64 n3) (.int .u64 n4)) hB.size (fun k hk => by injection hk with hk; omega))
  exact bodyPost_ret (v := .agg #[.int .i64 n0, .int .i64 n1, .int .i64 n2, .int .i64 n3, .int .u64 n4]) (by simp [results, Tryd.results31, go_sem, *]) rfl ⟨rfl, hX.alloc hX.size _⟩
end Go.Proofs.YtpimflmmfnffeaaDoor
