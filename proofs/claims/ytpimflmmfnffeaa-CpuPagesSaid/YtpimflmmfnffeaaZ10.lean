/- Texts laid as one: S1, S2, S3, S4, S5. -/
import Derived.Test.YtpimflmmfnffeaaZ9
import Derived.Defers
import Derived.Recover
/- Walks: what catches a trap (the deferred closure of Step); what gives an instruction up. -/
namespace Go.Proofs.Ytpimflmmfnffeaa
open Go.RowKit

set_option maxRecDepth 100000 in
set_option maxHeartbeats 2000000 in
theorem catch_trap (g : Nat) (k a x : Int) (v0 v1 v2 : Value) (older : List PanicEntry) (w : World) (bk : Blk w g 41 #[v0, v1, v2]) :
    CallsD Try.prog 18 #[.pointer (some ⟨g, 0, none⟩)] (.panicking ({ v := .iface 41 (.agg #[.int .i64 k, .int .i64 a, .int .u64 x]), recovered := false } :: older)) w fun e u' w' =>
      e = .returned (.tuple #[]) ∧ u' = .panicking ({ v := .iface 41 (.agg #[.int .i64 k, .int .i64 a, .int .u64 x]), recovered := true } :: older) ∧ w.grownBy w' (some g) ∧ Blk w' g 41 #[.int .i64 k, .int .i64 a, .int .u64 x] := by
  refine callsD_of_wpS Try.func18 rfl fun c₀ cs hu => ?_
  apply wpS_seq
  apply wpS_region
  simp [wpOpsS, go_sem, recoverD, hu, Try.ntmps18, Exit.thenS]
  refine wpS_of_wp ?_
  generalize hQ : (fun (e : Exit) (a' : Act) (w' : World) => _) = Q'
  replace hQ := Lib.hid hQ
  replace hu := Lib.hid hu
  have hta : ∀ (v : Value) (W : World), (Instr.typeAssert (.iface 41 v) 20 41 true).run Try.prog W = .ok (.tuple #[v, .bool true]) W := fun v W => by simp [Instr.typeAssert, go_sem]
  have c0 := bk.cell 0 v0 rfl
  have c1 := bk.cell 1 v1 rfl
  have c2 := bk.cell 2 v2 rfl
  have f0 := bk.frozen 0
  have f1 := bk.frozen 1
  have f2 := bk.frozen 2
  have hl := bk.lt
  simp only [Array.replicate_succ, Array.replicate_zero]
  go_simp
  go_wp2_with fail
  have hG := only_alloc (only_set (only_set (only_set (only_refl w g) 0 (.int .i64 k)) 1 (.int .i64 a)) 2 (.int .u64 x)) (Obj.cells #[.int .i64 k, .int .i64 a, .int .u64 x] 41)
  have bk3 := (((bk.set_ 0 (.int .i64 k)).set_ 1 (.int .i64 a)).set_ 2 (.int .u64 x)).alloc (Obj.cells #[.int .i64 k, .int .i64 a, .int .u64 x] 41)
  have hQ := hQ.out
  rw [← hQ]
  have hu := hu.out
  exact ⟨rfl, _, rfl, .tuple #[], by simp [results, Try.results18, go_sem], rfl, rfl, hG, bk3⟩
theorem catch_idle (g : Nat) (w : World) : CallsD Try.prog 18 #[.pointer (some ⟨g, 0, none⟩)] .returning w fun e u' w' => e = .returned (.tuple #[]) ∧ u' = .returning ∧ w' = w := by
  refine callsD_of_wpS Try.func18 rfl fun c₀ cs hu => ?_
  apply wpS_seq
  apply wpS_region
  simp [wpOpsS, go_sem, recoverD, hu, Try.ntmps18, Exit.thenS]
  refine wpS_of_wp ?_
  generalize hQ : (fun (e : Exit) (a' : Act) (w' : World) => _) = Q'
  replace hQ := Lib.hid hQ
  replace hu := Lib.hid hu
  simp only [Array.replicate_succ, Array.replicate_zero]
  go_simp
  go_wp2_with fail
  have hQ := hQ.out
  rw [← hQ]
  cases c₀
  have hu := hu.out
  simp_all [bodyPostS, results, Try.results18]
theorem give_any (f c : Nat) (k x a : Int) (w : World) (cf : w.cell? ⟨f, 0, none⟩ = some (.pointer (some ⟨c, 0, none⟩))) (ca : w.cell? ⟨c, 8, none⟩ = some (.int .i64 a)) : Calls Try.prog 26 #[.pointer (some ⟨f, 0, none⟩), .int .i64 k, .int .u64 x] w fun e w' => e = .panicked [{ v := .iface 41 (.agg #[.int .i64 k, .int .i64 a, .int .u64 x]), recovered := false }] ∧ w = w' := by
  go_enter Try.func26, Try.ntmps26
  go_wp2
  simp [bodyPost]
end Go.Proofs.Ytpimflmmfnffeaa

/- Walks: what a processor fetches and does. -/
namespace Go.Proofs.Ytpimflmmfnffeaa
open Go.RowKit

theorem only_far {a w : World} {g : Nat} (h : a.grownBy w (some g)) {p : Addr} (hp : a.heap.size ≤ p.block) (u : Value) : a.grownBy (w.setCell p u) (some g) :=
  ⟨h.os, h.tape, h.output, by simpa [World.setCell] using h.size, fun k hk hne => (Below.heap_setCell w p u k (by omega)).trans (h.block k hk hne)⟩
set_option maxHeartbeats 2000000 in
theorem fetch_yes (f c gc n k x : Nat) (n0 n1 n2 n3 n4 : Nat) (w : World) (cf0 : w.cell? ⟨f, 0, none⟩ = some (.pointer (some ⟨c, 0, none⟩))) (cf1 : w.cell? ⟨f, 1, none⟩ = some (.slice (some ⟨gc, 0, none⟩) n n)) (ca : w.cell? ⟨c, 8, none⟩ = some (.int .i64 k)) (hf : f < w.heap.size) (hc : c < w.heap.size) (hg : gc < w.heap.size) (hk : k < n) (hn : n < 1000000000) (cx : w.cell? ⟨gc, k, none⟩ = some (.int .u64 x))
    (HD : Hid (∀ W : World, Calls Try.prog 30 #[.int .u64 x] W fun e w' => e = .returned (.tuple #[.agg #[.int .i64 n0, .int .i64 n1, .int .i64 n2, .int .i64 n3, .int .u64 n4], .int .i64 0]) ∧ Below W.heap.size W w')) :
    Calls Try.prog 20 #[.pointer (some ⟨f, 0, none⟩)] w fun e w' => e = .returned (.agg #[.int .i64 n0, .int .i64 n1, .int .i64 n2, .int .i64 n3, .int .u64 n4]) ∧ Below w.heap.size w w' := by
  have hB := below1 w (Obj.cells #[.int .i64 0, .int .i64 0, .int .i64 0, .int .i64 0, .int .u64 0] 59)
  have bk := Blk.new w 59 #[.int .i64 0, .int .i64 0, .int .i64 0, .int .i64 0, .int .u64 0]
  replace cf0 := kcell hB cf0
  replace cf1 := kcell hB cf1
  replace ca := kcell hB ca
  replace cx := kcell hB cx
  go_enter Try.func20, Try.ntmps20
  go_wp2_with fail
  generalize w.alloc (Obj.cells #[.int .i64 0, .int .i64 0, .int .i64 0, .int .i64 0, .int .u64 0] 59) = w1 at *
  go_quiet (fail)
  go_wp2_with fail
  go_quiet (fail)
  go_wp2_with fail
  refine (HD.out _).mono ?_
  rintro e w2 ⟨rfl, hb⟩
  replace bk := (bk.drewN _).keep hb
  replace hB := bstep (bdrewN hB _) (Nat.le_refl _) hb
  clear hb cf0 cf1 ca cx
  have hlt := bk.lt
  have bk4 := Blk.new w2 59 #[.int .i64 n0, .int .i64 n1, .int .i64 n2, .int .i64 n3, .int .u64 n4]
  have z0 := bk.cell 0 (.int .i64 0) rfl
  have z1 := bk.cell 1 (.int .i64 0) rfl
  have z2 := bk.cell 2 (.int .i64 0) rfl
  have z3 := bk.cell 3 (.int .i64 0) rfl
  have z4 := bk.cell 4 (.int .u64 0) rfl
  have f0 := bk.frozen 0
  have f1 := bk.frozen 1
  have f2 := bk.frozen 2
  have f3 := bk.frozen 3
  have f4 := bk.frozen 4
  go_wp2_with fail
  have hX := (hB.grown (only_set5 w2 w.heap.size (.int .i64 n0) (.int .i64 n1) (.int .i64 n2) (.int .i64 n3) (.int .u64 n4)) hB.size (fun k hk => by injection hk with hk; omega))
  exact bodyPost_ret (v := .agg #[.int .i64 n0, .int .i64 n1, .int .i64 n2, .int .i64 n3, .int .u64 n4]) (by simp [results, Try.results20, go_sem, *]) rfl ⟨rfl, hX.alloc hX.size _⟩
end Go.Proofs.Ytpimflmmfnffeaa

/- Walks: what some instructions do. -/
namespace Go.Proofs.Ytpimflmmfnffeaa
open Go.RowKit

theorem reckon_div (f : Nat) (w : World) : Calls Try.prog 29 #[.pointer (some ⟨f, 0, none⟩), .int .i64 5, .int .u64 300, .int .u64 7] w fun e w' => e = .returned (.int .u64 42) ∧ w = w' := by
  go_enter Try.func29, Try.ntmps29
  go_wp2_with fail
  go_ret
  exact ⟨rfl, rfl⟩
set_option maxHeartbeats 2000000 in
theorem do_set0 (f c : Nat) (m : Nat) (at_ : Nat) (r0 r1 r2 r3 r4 r5 r6 r7 : Int) (w : World) (cf0 : w.cell? ⟨f, 0, none⟩ = some (.pointer (some ⟨c, 0, none⟩))) (bk : Blk w c 36 #[.int .u64 r0, .int .u64 r1, .int .u64 r2, .int .u64 r3, .int .u64 r4, .int .u64 r5, .int .u64 r6, .int .u64 r7, .int .i64 at_]) (hf : f < w.heap.size) (hat : at_ < 1000000000) :
    Calls Try.prog 19 #[.pointer (some ⟨f, 0, none⟩), .agg #[.int .i64 1, .int .i64 0, .int .i64 0, .int .i64 0, .int .u64 m]] w fun e w' => e = .returned (.tuple #[.int .i64 (at_ + 1), .agg #[.int .i64 0, .int .i64 0, .int .u64 0]]) ∧ w.grownBy w' (some c) ∧ Blk w' c 36 #[.int .u64 m, .int .u64 r1, .int .u64 r2, .int .u64 r3, .int .u64 r4, .int .u64 r5, .int .u64 r6, .int .u64 r7, .int .i64 at_] := by
  have q0 := bk.cell 0 (.int .u64 r0) rfl
  have q1 := bk.cell 1 (.int .u64 r1) rfl
  have q2 := bk.cell 2 (.int .u64 r2) rfl
  have q3 := bk.cell 3 (.int .u64 r3) rfl
  have q4 := bk.cell 4 (.int .u64 r4) rfl
  have q5 := bk.cell 5 (.int .u64 r5) rfl
  have q6 := bk.cell 6 (.int .u64 r6) rfl
  have q7 := bk.cell 7 (.int .u64 r7) rfl
  have q8 := bk.cell 8 (.int .i64 at_) rfl
  have hc := bk.lt
  have hB := (below1 w (Obj.cells #[.int .i64 1, .int .i64 0, .int .i64 0, .int .i64 0, .int .u64 m] 59)).alloc (by simp) (Obj.cells #[.int .i64 0, .int .i64 0, .int .u64 0] 41)
  have bi := (Blk.new w 59 #[.int .i64 1, .int .i64 0, .int .i64 0, .int .i64 0, .int .u64 m]).alloc (Obj.cells #[.int .i64 0, .int .i64 0, .int .u64 0] 41)
  have bt := Blk.new' (w.alloc (Obj.cells #[.int .i64 1, .int .i64 0, .int .i64 0, .int .i64 0, .int .u64 m] 59)) 41 #[.int .i64 0, .int .i64 0, .int .u64 0] (g := w.heap.size + 1) (by simp)
  go_enter Try.func19, Try.ntmps19
  go_wp2_with fail
  generalize (w.alloc (Obj.cells #[.int .i64 1, .int .i64 0, .int .i64 0, .int .i64 0, .int .u64 m] 59)).alloc (Obj.cells #[.int .i64 0, .int .i64 0, .int .u64 0] 41) = w1 at *
  clear q0 q1 q2 q3 q4 q5 q6 q7 q8
  replace cf0 := kcell hB cf0
  replace bk := bk.keep hB
  have q0 := bk.cell 0 (.int .u64 r0) rfl
  have q1 := bk.cell 1 (.int .u64 r1) rfl
  have q2 := bk.cell 2 (.int .u64 r2) rfl
  have q3 := bk.cell 3 (.int .u64 r3) rfl
  have q4 := bk.cell 4 (.int .u64 r4) rfl
  have q5 := bk.cell 5 (.int .u64 r5) rfl
  have q6 := bk.cell 6 (.int .u64 r6) rfl
  have q7 := bk.cell 7 (.int .u64 r7) rfl
  have q8 := bk.cell 8 (.int .i64 at_) rfl
  have i0 := bi.cell 0 (.int .i64 1) rfl
  have i1 := bi.cell 1 (.int .i64 0) rfl
  have i2 := bi.cell 2 (.int .i64 0) rfl
  have i3 := bi.cell 3 (.int .i64 0) rfl
  have i4 := bi.cell 4 (.int .u64 m) rfl
  have g0 := bk.frozen 0
  go_quiet (fail)
  have k0 := bt.cell 0 (.int .i64 0) rfl
  have k1 := bt.cell 1 (.int .i64 0) rfl
  have k2 := bt.cell 2 (.int .u64 0) rfl
  have l0 := bt.frozen 0
  have l1 := bt.frozen 1
  have l2 := bt.frozen 2
  go_wp2_with fail
  have hG := only_far (only_far (only_far (only_set (only_drewN (only_below (only_refl w c) hB) nq) 0 (.int .u64 m)) (p := ⟨w.heap.size + 1, 0, none⟩) (by simp) (.int .i64 0)) (p := ⟨w.heap.size + 1, 1, none⟩) (by simp) (.int .i64 0)) (p := ⟨w.heap.size + 1, 2, none⟩) (by simp) (.int .u64 0)
  have hK := ((((bk.drewN nq).set_ 0 (.int .u64 m)).far (p := ⟨w.heap.size + 1, 0, none⟩) (by simp; omega) (.int .i64 0)).far (p := ⟨w.heap.size + 1, 1, none⟩) (by simp; omega) (.int .i64 0)).far (p := ⟨w.heap.size + 1, 2, none⟩) (by simp; omega) (.int .u64 0)
  exact bodyPost_ret (v := .tuple #[.int .i64 (at_ + 1), .agg #[.int .i64 0, .int .i64 0, .int .u64 0]]) (by simp [results, Try.results19, go_sem, *]) rfl ⟨rfl, hG, hK⟩
set_option maxHeartbeats 2000000 in
theorem do_set1 (f c : Nat) (m : Nat) (at_ : Nat) (r0 r1 r2 r3 r4 r5 r6 r7 : Int) (w : World) (cf0 : w.cell? ⟨f, 0, none⟩ = some (.pointer (some ⟨c, 0, none⟩))) (bk : Blk w c 36 #[.int .u64 r0, .int .u64 r1, .int .u64 r2, .int .u64 r3, .int .u64 r4, .int .u64 r5, .int .u64 r6, .int .u64 r7, .int .i64 at_]) (hf : f < w.heap.size) (hat : at_ < 1000000000) :
    Calls Try.prog 19 #[.pointer (some ⟨f, 0, none⟩), .agg #[.int .i64 1, .int .i64 1, .int .i64 0, .int .i64 0, .int .u64 m]] w fun e w' => e = .returned (.tuple #[.int .i64 (at_ + 1), .agg #[.int .i64 0, .int .i64 0, .int .u64 0]]) ∧ w.grownBy w' (some c) ∧ Blk w' c 36 #[.int .u64 r0, .int .u64 m, .int .u64 r2, .int .u64 r3, .int .u64 r4, .int .u64 r5, .int .u64 r6, .int .u64 r7, .int .i64 at_] := by
  have q0 := bk.cell 0 (.int .u64 r0) rfl
  have q1 := bk.cell 1 (.int .u64 r1) rfl
  have q2 := bk.cell 2 (.int .u64 r2) rfl
  have q3 := bk.cell 3 (.int .u64 r3) rfl
  have q4 := bk.cell 4 (.int .u64 r4) rfl
  have q5 := bk.cell 5 (.int .u64 r5) rfl
  have q6 := bk.cell 6 (.int .u64 r6) rfl
  have q7 := bk.cell 7 (.int .u64 r7) rfl
  have q8 := bk.cell 8 (.int .i64 at_) rfl
  have hc := bk.lt
  have hB := (below1 w (Obj.cells #[.int .i64 1, .int .i64 1, .int .i64 0, .int .i64 0, .int .u64 m] 59)).alloc (by simp) (Obj.cells #[.int .i64 0, .int .i64 0, .int .u64 0] 41)
  have bi := (Blk.new w 59 #[.int .i64 1, .int .i64 1, .int .i64 0, .int .i64 0, .int .u64 m]).alloc (Obj.cells #[.int .i64 0, .int .i64 0, .int .u64 0] 41)
  have bt := Blk.new' (w.alloc (Obj.cells #[.int .i64 1, .int .i64 1, .int .i64 0, .int .i64 0, .int .u64 m] 59)) 41 #[.int .i64 0, .int .i64 0, .int .u64 0] (g := w.heap.size + 1) (by simp)
  go_enter Try.func19, Try.ntmps19
  go_wp2_with fail
  generalize (w.alloc (Obj.cells #[.int .i64 1, .int .i64 1, .int .i64 0, .int .i64 0, .int .u64 m] 59)).alloc (Obj.cells #[.int .i64 0, .int .i64 0, .int .u64 0] 41) = w1 at *
  clear q0 q1 q2 q3 q4 q5 q6 q7 q8
  replace cf0 := kcell hB cf0
  replace bk := bk.keep hB
  have q0 := bk.cell 0 (.int .u64 r0) rfl
  have q1 := bk.cell 1 (.int .u64 r1) rfl
  have q2 := bk.cell 2 (.int .u64 r2) rfl
  have q3 := bk.cell 3 (.int .u64 r3) rfl
  have q4 := bk.cell 4 (.int .u64 r4) rfl
  have q5 := bk.cell 5 (.int .u64 r5) rfl
  have q6 := bk.cell 6 (.int .u64 r6) rfl
  have q7 := bk.cell 7 (.int .u64 r7) rfl
  have q8 := bk.cell 8 (.int .i64 at_) rfl
  have i0 := bi.cell 0 (.int .i64 1) rfl
  have i1 := bi.cell 1 (.int .i64 1) rfl
  have i2 := bi.cell 2 (.int .i64 0) rfl
  have i3 := bi.cell 3 (.int .i64 0) rfl
  have i4 := bi.cell 4 (.int .u64 m) rfl
  have g0 := bk.frozen 1
  go_quiet (fail)
  have k0 := bt.cell 0 (.int .i64 0) rfl
  have k1 := bt.cell 1 (.int .i64 0) rfl
  have k2 := bt.cell 2 (.int .u64 0) rfl
  have l0 := bt.frozen 0
  have l1 := bt.frozen 1
  have l2 := bt.frozen 2
  go_wp2_with fail
  have hG := only_far (only_far (only_far (only_set (only_drewN (only_below (only_refl w c) hB) nq) 1 (.int .u64 m)) (p := ⟨w.heap.size + 1, 0, none⟩) (by simp) (.int .i64 0)) (p := ⟨w.heap.size + 1, 1, none⟩) (by simp) (.int .i64 0)) (p := ⟨w.heap.size + 1, 2, none⟩) (by simp) (.int .u64 0)
  have hK := ((((bk.drewN nq).set_ 1 (.int .u64 m)).far (p := ⟨w.heap.size + 1, 0, none⟩) (by simp; omega) (.int .i64 0)).far (p := ⟨w.heap.size + 1, 1, none⟩) (by simp; omega) (.int .i64 0)).far (p := ⟨w.heap.size + 1, 2, none⟩) (by simp; omega) (.int .u64 0)
  exact bodyPost_ret (v := .tuple #[.int .i64 (at_ + 1), .agg #[.int .i64 0, .int .i64 0, .int .u64 0]]) (by simp [results, Try.results19, go_sem, *]) rfl ⟨rfl, hG, hK⟩
set_option maxHeartbeats 2000000 in
theorem do_div2 (f c : Nat) (at_ : Nat) (r2 r3 r4 r5 r6 r7 : Int) (w : World) (cf0 : w.cell? ⟨f, 0, none⟩ = some (.pointer (some ⟨c, 0, none⟩))) (bk : Blk w c 36 #[.int .u64 300, .int .u64 7, .int .u64 r2, .int .u64 r3, .int .u64 r4, .int .u64 r5, .int .u64 r6, .int .u64 r7, .int .i64 at_]) (hf : f < w.heap.size) (hat : at_ < 1000000000) :
    Calls Try.prog 19 #[.pointer (some ⟨f, 0, none⟩), .agg #[.int .i64 5, .int .i64 2, .int .i64 0, .int .i64 1, .int .u64 0]] w fun e w' => e = .returned (.tuple #[.int .i64 (at_ + 1), .agg #[.int .i64 0, .int .i64 0, .int .u64 0]]) ∧ w.grownBy w' (some c) ∧ Blk w' c 36 #[.int .u64 300, .int .u64 7, .int .u64 42, .int .u64 r3, .int .u64 r4, .int .u64 r5, .int .u64 r6, .int .u64 r7, .int .i64 at_] := by
  have q0 := bk.cell 0 (.int .u64 300) rfl
  have q1 := bk.cell 1 (.int .u64 7) rfl
  have q2 := bk.cell 2 (.int .u64 r2) rfl
  have q3 := bk.cell 3 (.int .u64 r3) rfl
  have q4 := bk.cell 4 (.int .u64 r4) rfl
  have q5 := bk.cell 5 (.int .u64 r5) rfl
  have q6 := bk.cell 6 (.int .u64 r6) rfl
  have q7 := bk.cell 7 (.int .u64 r7) rfl
  have q8 := bk.cell 8 (.int .i64 at_) rfl
  have hc := bk.lt
  have hB := (below1 w (Obj.cells #[.int .i64 5, .int .i64 2, .int .i64 0, .int .i64 1, .int .u64 0] 59)).alloc (by simp) (Obj.cells #[.int .i64 0, .int .i64 0, .int .u64 0] 41)
  have bi := (Blk.new w 59 #[.int .i64 5, .int .i64 2, .int .i64 0, .int .i64 1, .int .u64 0]).alloc (Obj.cells #[.int .i64 0, .int .i64 0, .int .u64 0] 41)
  have bt := Blk.new' (w.alloc (Obj.cells #[.int .i64 5, .int .i64 2, .int .i64 0, .int .i64 1, .int .u64 0] 59)) 41 #[.int .i64 0, .int .i64 0, .int .u64 0] (g := w.heap.size + 1) (by simp)
  go_enter Try.func19, Try.ntmps19
  go_wp2_with fail
  generalize (w.alloc (Obj.cells #[.int .i64 5, .int .i64 2, .int .i64 0, .int .i64 1, .int .u64 0] 59)).alloc (Obj.cells #[.int .i64 0, .int .i64 0, .int .u64 0] 41) = w1 at *
  clear q0 q1 q2 q3 q4 q5 q6 q7 q8
  replace cf0 := kcell hB cf0
  replace bk := bk.keep hB
  have q0 := bk.cell 0 (.int .u64 300) rfl
  have q1 := bk.cell 1 (.int .u64 7) rfl
  have q2 := bk.cell 2 (.int .u64 r2) rfl
  have q3 := bk.cell 3 (.int .u64 r3) rfl
  have q4 := bk.cell 4 (.int .u64 r4) rfl
  have q5 := bk.cell 5 (.int .u64 r5) rfl
  have q6 := bk.cell 6 (.int .u64 r6) rfl
  have q7 := bk.cell 7 (.int .u64 r7) rfl
  have q8 := bk.cell 8 (.int .i64 at_) rfl
  have i0 := bi.cell 0 (.int .i64 5) rfl
  have i1 := bi.cell 1 (.int .i64 2) rfl
  have i2 := bi.cell 2 (.int .i64 0) rfl
  have i3 := bi.cell 3 (.int .i64 1) rfl
  have i4 := bi.cell 4 (.int .u64 0) rfl
  have g0 := bk.frozen 2
  go_quiet (fail)
  have k0 := bt.cell 0 (.int .i64 0) rfl
  have k1 := bt.cell 1 (.int .i64 0) rfl
  have k2 := bt.cell 2 (.int .u64 0) rfl
  have l0 := bt.frozen 0
  have l1 := bt.frozen 1
  have l2 := bt.frozen 2
  go_wp2_with (go_at_call 29; refine (reckon_div _ _).mono ?_; rintro e w3 ⟨rfl, rfl⟩)
  have hG := only_far (only_far (only_far (only_set (only_drewN (only_below (only_refl w c) hB) nq) 2 (.int .u64 42)) (p := ⟨w.heap.size + 1, 0, none⟩) (by simp) (.int .i64 0)) (p := ⟨w.heap.size + 1, 1, none⟩) (by simp) (.int .i64 0)) (p := ⟨w.heap.size + 1, 2, none⟩) (by simp) (.int .u64 0)
  have hK := ((((bk.drewN nq).set_ 2 (.int .u64 42)).far (p := ⟨w.heap.size + 1, 0, none⟩) (by simp; omega) (.int .i64 0)).far (p := ⟨w.heap.size + 1, 1, none⟩) (by simp; omega) (.int .i64 0)).far (p := ⟨w.heap.size + 1, 2, none⟩) (by simp; omega) (.int .u64 0)
  exact bodyPost_ret (v := .tuple #[.int .i64 (at_ + 1), .agg #[.int .i64 0, .int .i64 0, .int .u64 0]]) (by simp [results, Try.results19, go_sem, *]) rfl ⟨rfl, hG, hK⟩
set_option maxHeartbeats 2000000 in
theorem do_halt (f c : Nat) (at_ : Nat) (r0 r1 r2 r3 r4 r5 r6 r7 : Int) (w : World) (cf0 : w.cell? ⟨f, 0, none⟩ = some (.pointer (some ⟨c, 0, none⟩))) (bk : Blk w c 36 #[.int .u64 r0, .int .u64 r1, .int .u64 r2, .int .u64 r3, .int .u64 r4, .int .u64 r5, .int .u64 r6, .int .u64 r7, .int .i64 at_]) (hf : f < w.heap.size) (hat : at_ < 1000000000) :
    Calls Try.prog 19 #[.pointer (some ⟨f, 0, none⟩), .agg #[.int .i64 0, .int .i64 0, .int .i64 0, .int .i64 0, .int .u64 0]] w fun e w' => e = .panicked [{ v := .iface 41 (.agg #[.int .i64 2, .int .i64 at_, .int .u64 0]), recovered := false }] ∧ Below w.heap.size w w' := by
  have q0 := bk.cell 0 (.int .u64 r0) rfl
  have q1 := bk.cell 1 (.int .u64 r1) rfl
  have q2 := bk.cell 2 (.int .u64 r2) rfl
  have q3 := bk.cell 3 (.int .u64 r3) rfl
  have q4 := bk.cell 4 (.int .u64 r4) rfl
  have q5 := bk.cell 5 (.int .u64 r5) rfl
  have q6 := bk.cell 6 (.int .u64 r6) rfl
  have q7 := bk.cell 7 (.int .u64 r7) rfl
  have q8 := bk.cell 8 (.int .i64 at_) rfl
  have hc := bk.lt
  have hB := (below1 w (Obj.cells #[.int .i64 0, .int .i64 0, .int .i64 0, .int .i64 0, .int .u64 0] 59)).alloc (by simp) (Obj.cells #[.int .i64 0, .int .i64 0, .int .u64 0] 41)
  have bi := (Blk.new w 59 #[.int .i64 0, .int .i64 0, .int .i64 0, .int .i64 0, .int .u64 0]).alloc (Obj.cells #[.int .i64 0, .int .i64 0, .int .u64 0] 41)
  have bt := Blk.new' (w.alloc (Obj.cells #[.int .i64 0, .int .i64 0, .int .i64 0, .int .i64 0, .int .u64 0] 59)) 41 #[.int .i64 0, .int .i64 0, .int .u64 0] (g := w.heap.size + 1) (by simp)
  go_enter Try.func19, Try.ntmps19
  go_wp2_with fail
  generalize (w.alloc (Obj.cells #[.int .i64 0, .int .i64 0, .int .i64 0, .int .i64 0, .int .u64 0] 59)).alloc (Obj.cells #[.int .i64 0, .int .i64 0, .int .u64 0] 41) = w1 at *
  clear q0 q1 q2 q3 q4 q5 q6 q7 q8
  replace cf0 := kcell hB cf0
  replace bk := bk.keep hB
  have q0 := bk.cell 0 (.int .u64 r0) rfl
  have q1 := bk.cell 1 (.int .u64 r1) rfl
  have q2 := bk.cell 2 (.int .u64 r2) rfl
  have q3 := bk.cell 3 (.int .u64 r3) rfl
  have q4 := bk.cell 4 (.int .u64 r4) rfl
  have q5 := bk.cell 5 (.int .u64 r5) rfl
  have q6 := bk.cell 6 (.int .u64 r6) rfl
  have q7 := bk.cell 7 (.int .u64 r7) rfl
  have q8 := bk.cell 8 (.int .i64 at_) rfl
  have i0 := bi.cell 0 (.int .i64 0) rfl
  have i1 := bi.cell 1 (.int .i64 0) rfl
  have i2 := bi.cell 2 (.int .i64 0) rfl
  have i3 := bi.cell 3 (.int .i64 0) rfl
  have i4 := bi.cell 4 (.int .u64 0) rfl
  have g0 := bk.frozen 0
  go_quiet (fail)
  have k0 := bt.cell 0 (.int .i64 0) rfl
  have k1 := bt.cell 1 (.int .i64 0) rfl
  have k2 := bt.cell 2 (.int .u64 0) rfl
  have l0 := bt.frozen 0
  have l1 := bt.frozen 1
  have l2 := bt.frozen 2
  go_wp2_with fail
  refine (give_any f c 2 0 at_ (w1.drewN nq) (by exact cf0) (by exact q8)).mono ?_
  rintro e w3 ⟨rfl, rfl⟩
  simp only [bodyPost]
  exact ⟨rfl, rfl, bdrewN hB _⟩
end Go.Proofs.Ytpimflmmfnffeaa

/- Walks: what Step does, where the instruction is done; where it is given up. -/
namespace Go.Proofs.Ytpimflmmfnffeaa
open Go.RowKit

set_option maxHeartbeats 2000000 in
theorem step_done (c gc n k x : Nat) (n0 n1 n2 n3 n4 : Nat) (r0 r1 r2 r3 r4 r5 r6 r7 s0 s1 s2 s3 s4 s5 s6 s7 : Int) (w : World) (bk : Blk w c 36 #[.int .u64 r0, .int .u64 r1, .int .u64 r2, .int .u64 r3, .int .u64 r4, .int .u64 r5, .int .u64 r6, .int .u64 r7, .int .i64 k]) (hg : gc < w.heap.size) (hk : k < n) (hn : n < 1000000000) (cx : w.cell? ⟨gc, k, none⟩ = some (.int .u64 x))
    (HD : Hid (∀ W : World, Calls Try.prog 30 #[.int .u64 x] W fun e w' => e = .returned (.tuple #[.agg #[.int .i64 n0, .int .i64 n1, .int .i64 n2, .int .i64 n3, .int .u64 n4], .int .i64 0]) ∧ Below W.heap.size W w'))
    (HO : Hid (∀ (W : World) (f : Nat), W.cell? ⟨f, 0, none⟩ = some (.pointer (some ⟨c, 0, none⟩)) → Blk W c 36 #[.int .u64 r0, .int .u64 r1, .int .u64 r2, .int .u64 r3, .int .u64 r4, .int .u64 r5, .int .u64 r6, .int .u64 r7, .int .i64 k] → f < W.heap.size → Calls Try.prog 19 #[.pointer (some ⟨f, 0, none⟩), .agg #[.int .i64 n0, .int .i64 n1, .int .i64 n2, .int .i64 n3, .int .u64 n4]] W fun e w' => e = .returned (.tuple #[.int .i64 (k + 1), .agg #[.int .i64 0, .int .i64 0, .int .u64 0]]) ∧ W.grownBy w' (some c) ∧ Blk w' c 36 #[.int .u64 s0, .int .u64 s1, .int .u64 s2, .int .u64 s3, .int .u64 s4, .int .u64 s5, .int .u64 s6, .int .u64 s7, .int .i64 k])) :
    Calls Try.prog 8 #[.pointer (some ⟨c, 0, none⟩), .slice (some ⟨gc, 0, none⟩) n n, .agg #[.int .i64 0, .pointer none, .pointer none]] w fun e w' => e = .returned (.agg #[.int .i64 0, .int .i64 0, .int .u64 0]) ∧ w.grownBy w' (some c) ∧ Blk w' c 36 #[.int .u64 s0, .int .u64 s1, .int .u64 s2, .int .u64 s3, .int .u64 s4, .int .u64 s5, .int .u64 s6, .int .u64 s7, .int .i64 (k + 1)] := by
  have hmf : ∀ (fn : Fn) (first cap : Array Value) (w : World), (Instr.makeFunc fn first cap).run Try.prog w = .ok (.func fn first cap) w := fun _ _ _ _ => rfl
  have hc := bk.lt
  have hB : Below w.heap.size w (((w.alloc (Obj.cells #[.int .i64 0, .pointer none, .pointer none] 30)).alloc (Obj.cells #[.int .i64 0, .int .i64 0, .int .u64 0] 41)).alloc (Obj.cells #[.pointer (some ⟨c, 0, none⟩), .slice (some ⟨gc, 0, none⟩) n n, .int .i64 0, .pointer none, .pointer none] 77)) := ((below1 w (Obj.cells #[.int .i64 0, .pointer none, .pointer none] 30)).alloc (by simp) _).alloc (by simp; omega) _
  have bt := (Blk.new' (w.alloc (Obj.cells #[.int .i64 0, .pointer none, .pointer none] 30)) 41 #[.int .i64 0, .int .i64 0, .int .u64 0] (g := w.heap.size + 1) (by simp)).alloc (Obj.cells #[.pointer (some ⟨c, 0, none⟩), .slice (some ⟨gc, 0, none⟩) n n, .int .i64 0, .pointer none, .pointer none] 77)
  have bf := Blk.new' ((w.alloc (Obj.cells #[.int .i64 0, .pointer none, .pointer none] 30)).alloc (Obj.cells #[.int .i64 0, .int .i64 0, .int .u64 0] 41)) 77 #[.pointer (some ⟨c, 0, none⟩), .slice (some ⟨gc, 0, none⟩) n n, .int .i64 0, .pointer none, .pointer none] (g := w.heap.size + 1 + 1) (by simp)
  go_enter_defers Try.func8, Try.ntmps8
  go_wp2_with fail
  generalize (((w.alloc (Obj.cells #[.int .i64 0, .pointer none, .pointer none] 30)).alloc (Obj.cells #[.int .i64 0, .int .i64 0, .int .u64 0] 41)).alloc (Obj.cells #[.pointer (some ⟨c, 0, none⟩), .slice (some ⟨gc, 0, none⟩) n n, .int .i64 0, .pointer none, .pointer none] 77)) = w1 at *
  replace bk := bk.keep hB
  replace cx := kcell hB cx
  have hs := hB.size
  refine (fetch_yes (w.heap.size + 1 + 1) c gc n k x n0 n1 n2 n3 n4 w1 (bf.cell 0 _ rfl) (bf.cell 1 _ rfl) (bk.cell 8 _ rfl) bf.lt bk.lt (by omega) hk hn cx HD).mono ?_
  rintro e w2 ⟨rfl, hb⟩
  replace bk := bk.keep hb
  replace bf := bf.keep hb
  replace bt := bt.keep hb
  replace hB := bstep hB (Nat.le_refl _) hb
  clear hb cx hs
  go_wp2_with fail
  refine (HO.out w2 _ (bf.cell 0 _ rfl) bk bf.lt).mono ?_
  rintro e w3 ⟨rfl, hgr, bk2⟩
  replace bt := bt.grown hgr (by intro h; injection h with h; omega)
  have hG := only_trans (only_below (only_refl w c) hB) hgr
  have q8 := bk2.cell 8 (.int .i64 k) rfl
  have g8 := bk2.frozen 8
  have k0 := bt.cell 0 (.int .i64 0) rfl
  have k1 := bt.cell 1 (.int .i64 0) rfl
  have k2 := bt.cell 2 (.int .u64 0) rfl
  have l0 := bt.frozen 0
  have l1 := bt.frozen 1
  have l2 := bt.frozen 2
  clear HD HO hgr bk bf
  go_wp2_with fail
  clear q8 g8 k0 k1 k2 l0 l1 l2
  refine leaves_cons (f := 18) (args := #[.pointer (some ⟨w.heap.size + 1, 0, none⟩)]) (by simp) (by simp [go_sem]) ?_
  refine (catch_idle _ _).mono ?_
  rintro e u' w'' ⟨rfl, rfl, rfl⟩
  have hG5 : w.grownBy (((((((w3.setCell ⟨c, 8, none⟩ (.int .i64 (k + 1))).setCell ⟨w.heap.size + 1, 0, none⟩ (.int .i64 0)).setCell ⟨w.heap.size + 1, 1, none⟩ (.int .i64 0)).setCell ⟨w.heap.size + 1, 2, none⟩ (.int .u64 0)).setCell ⟨w.heap.size + 1, 0, none⟩ (.int .i64 0)).setCell ⟨w.heap.size + 1, 1, none⟩ (.int .i64 0)).setCell ⟨w.heap.size + 1, 2, none⟩ (.int .u64 0)) (some c) := (only_far ((only_far ((only_far ((only_far ((only_far ((only_far (only_set hG 8 (.int .i64 (k + 1))) (p := ⟨w.heap.size + 1, 0, none⟩) (by simp) (.int .i64 0))) (p := ⟨w.heap.size + 1, 1, none⟩) (by simp) (.int .i64 0))) (p := ⟨w.heap.size + 1, 2, none⟩) (by simp) (.int .u64 0))) (p := ⟨w.heap.size + 1, 0, none⟩) (by simp) (.int .i64 0))) (p := ⟨w.heap.size + 1, 1, none⟩) (by simp) (.int .i64 0))) (p := ⟨w.heap.size + 1, 2, none⟩) (by simp) (.int .u64 0))
  have hK5 : Blk (((((((w3.setCell ⟨c, 8, none⟩ (.int .i64 (k + 1))).setCell ⟨w.heap.size + 1, 0, none⟩ (.int .i64 0)).setCell ⟨w.heap.size + 1, 1, none⟩ (.int .i64 0)).setCell ⟨w.heap.size + 1, 2, none⟩ (.int .u64 0)).setCell ⟨w.heap.size + 1, 0, none⟩ (.int .i64 0)).setCell ⟨w.heap.size + 1, 1, none⟩ (.int .i64 0)).setCell ⟨w.heap.size + 1, 2, none⟩ (.int .u64 0)) c 36 #[.int .u64 s0, .int .u64 s1, .int .u64 s2, .int .u64 s3, .int .u64 s4, .int .u64 s5, .int .u64 s6, .int .u64 s7, .int .i64 (k + 1)] := (((((((bk2.set_ 8 (.int .i64 (k + 1))).far (p := ⟨w.heap.size + 1, 0, none⟩) (by simp; omega) (.int .i64 0)).far (p := ⟨w.heap.size + 1, 1, none⟩) (by simp; omega) (.int .i64 0)).far (p := ⟨w.heap.size + 1, 2, none⟩) (by simp; omega) (.int .u64 0)).far (p := ⟨w.heap.size + 1, 0, none⟩) (by simp; omega) (.int .i64 0)).far (p := ⟨w.heap.size + 1, 1, none⟩) (by simp; omega) (.int .i64 0)).far (p := ⟨w.heap.size + 1, 2, none⟩) (by simp; omega) (.int .u64 0))
  have bt5 : Blk (((((((w3.setCell ⟨c, 8, none⟩ (.int .i64 (k + 1))).setCell ⟨w.heap.size + 1, 0, none⟩ (.int .i64 0)).setCell ⟨w.heap.size + 1, 1, none⟩ (.int .i64 0)).setCell ⟨w.heap.size + 1, 2, none⟩ (.int .u64 0)).setCell ⟨w.heap.size + 1, 0, none⟩ (.int .i64 0)).setCell ⟨w.heap.size + 1, 1, none⟩ (.int .i64 0)).setCell ⟨w.heap.size + 1, 2, none⟩ (.int .u64 0)) (w.heap.size + 1) 41 #[.int .i64 0, .int .i64 0, .int .u64 0] := (((((((bt.far (p := ⟨c, 8, none⟩) (by simp; omega) (.int .i64 (k + 1))).set_ 0 (.int .i64 0)).set_ 1 (.int .i64 0)).set_ 2 (.int .u64 0)).set_ 0 (.int .i64 0)).set_ 1 (.int .i64 0)).set_ 2 (.int .u64 0))
  generalize (((((((w3.setCell ⟨c, 8, none⟩ (.int .i64 (k + 1))).setCell ⟨w.heap.size + 1, 0, none⟩ (.int .i64 0)).setCell ⟨w.heap.size + 1, 1, none⟩ (.int .i64 0)).setCell ⟨w.heap.size + 1, 2, none⟩ (.int .u64 0)).setCell ⟨w.heap.size + 1, 0, none⟩ (.int .i64 0)).setCell ⟨w.heap.size + 1, 1, none⟩ (.int .i64 0)).setCell ⟨w.heap.size + 1, 2, none⟩ (.int .u64 0)) = w5 at *
  have k0 := bt5.cell 0 (.int .i64 0) rfl
  have k1 := bt5.cell 1 (.int .i64 0) rfl
  have k2 := bt5.cell 2 (.int .u64 0) rfl
  simp [Leaves, settle, results, Try.results8, go_sem, k0, k1, k2]
  exact ⟨hG5, hK5⟩

set_option maxHeartbeats 2000000 in
theorem step_trap (c gc n k x : Nat) (n0 n1 n2 n3 n4 : Nat) (r0 r1 r2 r3 r4 r5 r6 r7 K A X : Int) (w : World) (bk : Blk w c 36 #[.int .u64 r0, .int .u64 r1, .int .u64 r2, .int .u64 r3, .int .u64 r4, .int .u64 r5, .int .u64 r6, .int .u64 r7, .int .i64 k]) (hg : gc < w.heap.size) (hk : k < n) (hn : n < 1000000000) (cx : w.cell? ⟨gc, k, none⟩ = some (.int .u64 x))
    (HD : Hid (∀ W : World, Calls Try.prog 30 #[.int .u64 x] W fun e w' => e = .returned (.tuple #[.agg #[.int .i64 n0, .int .i64 n1, .int .i64 n2, .int .i64 n3, .int .u64 n4], .int .i64 0]) ∧ Below W.heap.size W w'))
    (HO : Hid (∀ (W : World) (f : Nat), W.cell? ⟨f, 0, none⟩ = some (.pointer (some ⟨c, 0, none⟩)) → Blk W c 36 #[.int .u64 r0, .int .u64 r1, .int .u64 r2, .int .u64 r3, .int .u64 r4, .int .u64 r5, .int .u64 r6, .int .u64 r7, .int .i64 k] → f < W.heap.size → Calls Try.prog 19 #[.pointer (some ⟨f, 0, none⟩), .agg #[.int .i64 n0, .int .i64 n1, .int .i64 n2, .int .i64 n3, .int .u64 n4]] W fun e w' => e = .panicked [{ v := .iface 41 (.agg #[.int .i64 K, .int .i64 A, .int .u64 X]), recovered := false }] ∧ Below W.heap.size W w')) :
    Calls Try.prog 8 #[.pointer (some ⟨c, 0, none⟩), .slice (some ⟨gc, 0, none⟩) n n, .agg #[.int .i64 0, .pointer none, .pointer none]] w fun e w' => e = .returned (.agg #[.int .i64 K, .int .i64 A, .int .u64 X]) ∧ Below w.heap.size w w' := by
  have hmf : ∀ (fn : Fn) (first cap : Array Value) (w : World), (Instr.makeFunc fn first cap).run Try.prog w = .ok (.func fn first cap) w := fun _ _ _ _ => rfl
  have hc := bk.lt
  have hB : Below w.heap.size w (((w.alloc (Obj.cells #[.int .i64 0, .pointer none, .pointer none] 30)).alloc (Obj.cells #[.int .i64 0, .int .i64 0, .int .u64 0] 41)).alloc (Obj.cells #[.pointer (some ⟨c, 0, none⟩), .slice (some ⟨gc, 0, none⟩) n n, .int .i64 0, .pointer none, .pointer none] 77)) := ((below1 w (Obj.cells #[.int .i64 0, .pointer none, .pointer none] 30)).alloc (by simp) _).alloc (by simp; omega) _
  have bt := (Blk.new' (w.alloc (Obj.cells #[.int .i64 0, .pointer none, .pointer none] 30)) 41 #[.int .i64 0, .int .i64 0, .int .u64 0] (g := w.heap.size + 1) (by simp)).alloc (Obj.cells #[.pointer (some ⟨c, 0, none⟩), .slice (some ⟨gc, 0, none⟩) n n, .int .i64 0, .pointer none, .pointer none] 77)
  have bf := Blk.new' ((w.alloc (Obj.cells #[.int .i64 0, .pointer none, .pointer none] 30)).alloc (Obj.cells #[.int .i64 0, .int .i64 0, .int .u64 0] 41)) 77 #[.pointer (some ⟨c, 0, none⟩), .slice (some ⟨gc, 0, none⟩) n n, .int .i64 0, .pointer none, .pointer none] (g := w.heap.size + 1 + 1) (by simp)
  go_enter_defers Try.func8, Try.ntmps8
  go_wp2_with fail
  generalize (((w.alloc (Obj.cells #[.int .i64 0, .pointer none, .pointer none] 30)).alloc (Obj.cells #[.int .i64 0, .int .i64 0, .int .u64 0] 41)).alloc (Obj.cells #[.pointer (some ⟨c, 0, none⟩), .slice (some ⟨gc, 0, none⟩) n n, .int .i64 0, .pointer none, .pointer none] 77)) = w1 at *
  replace bk := bk.keep hB
  replace cx := kcell hB cx
  have hs := hB.size
  refine (fetch_yes (w.heap.size + 1 + 1) c gc n k x n0 n1 n2 n3 n4 w1 (bf.cell 0 _ rfl) (bf.cell 1 _ rfl) (bk.cell 8 _ rfl) bf.lt bk.lt (by omega) hk hn cx HD).mono ?_
  rintro e w2 ⟨rfl, hb⟩
  replace bk := bk.keep hb
  replace bf := bf.keep hb
  replace bt := bt.keep hb
  replace hB := bstep hB (Nat.le_refl _) hb
  clear hb cx hs
  go_wp2_with fail
  refine (HO.out w2 _ (bf.cell 0 _ rfl) bk bf.lt).mono ?_
  rintro e w3 ⟨rfl, hb⟩
  replace bt := bt.keep hb
  replace hB := bstep hB (Nat.le_refl _) hb
  clear HD HO hb bk bf
  go_wp2_with fail
  refine leaves_cons (f := 18) (args := #[.pointer (some ⟨w.heap.size + 1, 0, none⟩)]) (by simp) (by simp [go_sem]) ?_
  refine (catch_trap _ K A X _ _ _ [] _ bt).mono ?_
  rintro e u' w'' ⟨rfl, rfl, hgr, bt5⟩
  have hX := hB.grown hgr hB.size (fun k hk => by injection hk with hk; omega)
  have k0 := bt5.cell 0 (.int .i64 K) rfl
  have k1 := bt5.cell 1 (.int .i64 A) rfl
  have k2 := bt5.cell 2 (.int .u64 X) rfl
  simp [Leaves, settle, results, Try.results8, go_sem, k0, k1, k2]
  exact hX
end Go.Proofs.Ytpimflmmfnffeaa

/- Walks: the example program: Run, awake. -/
namespace Go.Proofs.Ytpimflmmfnffeaa
open Go.RowKit

theorem dec_0 (W : World) : Calls Try.prog 30 #[.int .u64 314572801] W fun e w' => e = .returned (.tuple #[.agg #[.int .i64 1, .int .i64 0, .int .i64 0, .int .i64 0, .int .u64 300], .int .i64 0]) ∧ Below W.heap.size W w' :=
  decode_num 314572801 1 0 0 0 300 W (by decide) (by rw [get_parts 314572801 (by decide)]) (by decide) true (by decide +kernel)
theorem word_0 (W : World) : Calls Try.prog 13 #[.agg #[.int .i64 1, .int .i64 0, .int .i64 0, .int .i64 0, .int .u64 300]] W fun e w' => e = .returned (.int .u64 314572801) ∧ Below W.heap.size W w' := by
  have HW : Hid (∀ W : World, Calls Try.prog 25 #[.agg #[.int .i64 1, .int .i64 0, .int .i64 0, .int .i64 0, .int .u64 300]] W fun e w' => e = .returned (.tuple #[.int .u64 314572801, .int .i64 0]) ∧ Below W.heap.size W w') := fun W => word_yes 1 0 0 0 300 W (by decide +kernel)
  go_enter Try.func13, Try.ntmps13
  go_wp2_with fail
  refine (HW.out _).mono ?_
  rintro e w2 ⟨rfl, hb⟩
  go_wp2
  go_ret
  exact ⟨rfl, bstep (below1 W _) (Nat.le_refl _) hb⟩
theorem dec_1 (W : World) : Calls Try.prog 30 #[.int .u64 7340289] W fun e w' => e = .returned (.tuple #[.agg #[.int .i64 1, .int .i64 1, .int .i64 0, .int .i64 0, .int .u64 7], .int .i64 0]) ∧ Below W.heap.size W w' :=
  decode_num 7340289 1 1 0 0 7 W (by decide) (by rw [get_parts 7340289 (by decide)]) (by decide) true (by decide +kernel)
theorem word_1 (W : World) : Calls Try.prog 13 #[.agg #[.int .i64 1, .int .i64 1, .int .i64 0, .int .i64 0, .int .u64 7]] W fun e w' => e = .returned (.int .u64 7340289) ∧ Below W.heap.size W w' := by
  have HW : Hid (∀ W : World, Calls Try.prog 25 #[.agg #[.int .i64 1, .int .i64 1, .int .i64 0, .int .i64 0, .int .u64 7]] W fun e w' => e = .returned (.tuple #[.int .u64 7340289, .int .i64 0]) ∧ Below W.heap.size W w') := fun W => word_yes 1 1 0 0 7 W (by decide +kernel)
  go_enter Try.func13, Try.ntmps13
  go_wp2_with fail
  refine (HW.out _).mono ?_
  rintro e w2 ⟨rfl, hb⟩
  go_wp2
  go_ret
  exact ⟨rfl, bstep (below1 W _) (Nat.le_refl _) hb⟩
theorem dec_2 (W : World) : Calls Try.prog 30 #[.int .u64 66053] W fun e w' => e = .returned (.tuple #[.agg #[.int .i64 5, .int .i64 2, .int .i64 0, .int .i64 1, .int .u64 0], .int .i64 0]) ∧ Below W.heap.size W w' :=
  decode_num 66053 5 2 0 1 0 W (by decide) (by rw [get_parts 66053 (by decide)]) (by decide) true (by decide +kernel)
theorem word_2 (W : World) : Calls Try.prog 13 #[.agg #[.int .i64 5, .int .i64 2, .int .i64 0, .int .i64 1, .int .u64 0]] W fun e w' => e = .returned (.int .u64 66053) ∧ Below W.heap.size W w' := by
  have HW : Hid (∀ W : World, Calls Try.prog 25 #[.agg #[.int .i64 5, .int .i64 2, .int .i64 0, .int .i64 1, .int .u64 0]] W fun e w' => e = .returned (.tuple #[.int .u64 66053, .int .i64 0]) ∧ Below W.heap.size W w') := fun W => word_yes 5 2 0 1 0 W (by decide +kernel)
  go_enter Try.func13, Try.ntmps13
  go_wp2_with fail
  refine (HW.out _).mono ?_
  rintro e w2 ⟨rfl, hb⟩
  go_wp2
  go_ret
  exact ⟨rfl, bstep (below1 W _) (Nat.le_refl _) hb⟩
theorem dec_3 (W : World) : Calls Try.prog 30 #[.int .u64 0] W fun e w' => e = .returned (.tuple #[.agg #[.int .i64 0, .int .i64 0, .int .i64 0, .int .i64 0, .int .u64 0], .int .i64 0]) ∧ Below W.heap.size W w' :=
  decode_num 0 0 0 0 0 0 W (by decide) (by rw [get_parts 0 (by decide)]) (by decide) true (by decide +kernel)
theorem step_0 (c gc : Nat) (w : World) (bk : Blk w c 36 #[.int .u64 0, .int .u64 0, .int .u64 0, .int .u64 0, .int .u64 0, .int .u64 0, .int .u64 0, .int .u64 0, .int .i64 0]) (hg : gc < w.heap.size) (cx : w.cell? ⟨gc, 0, none⟩ = some (.int .u64 314572801)) :
    Calls Try.prog 8 #[.pointer (some ⟨c, 0, none⟩), .slice (some ⟨gc, 0, none⟩) 4 4, .agg #[.int .i64 0, .pointer none, .pointer none]] w fun e w' => e = .returned (.agg #[.int .i64 0, .int .i64 0, .int .u64 0]) ∧ w.grownBy w' (some c) ∧ Blk w' c 36 #[.int .u64 300, .int .u64 0, .int .u64 0, .int .u64 0, .int .u64 0, .int .u64 0, .int .u64 0, .int .u64 0, .int .i64 1] :=
  step_done c gc 4 0 314572801 1 0 0 0 300 0 0 0 0 0 0 0 0 300 0 0 0 0 0 0 0 w bk hg (by decide) (by decide) cx (fun W => dec_0 W) (fun W f h1 h2 h3 => do_set0 f c 300 0 0 0 0 0 0 0 0 0 W h1 h2 h3 (by decide))
theorem step_1 (c gc : Nat) (w : World) (bk : Blk w c 36 #[.int .u64 300, .int .u64 0, .int .u64 0, .int .u64 0, .int .u64 0, .int .u64 0, .int .u64 0, .int .u64 0, .int .i64 1]) (hg : gc < w.heap.size) (cx : w.cell? ⟨gc, 1, none⟩ = some (.int .u64 7340289)) :
    Calls Try.prog 8 #[.pointer (some ⟨c, 0, none⟩), .slice (some ⟨gc, 0, none⟩) 4 4, .agg #[.int .i64 0, .pointer none, .pointer none]] w fun e w' => e = .returned (.agg #[.int .i64 0, .int .i64 0, .int .u64 0]) ∧ w.grownBy w' (some c) ∧ Blk w' c 36 #[.int .u64 300, .int .u64 7, .int .u64 0, .int .u64 0, .int .u64 0, .int .u64 0, .int .u64 0, .int .u64 0, .int .i64 2] :=
  step_done c gc 4 1 7340289 1 1 0 0 7 300 0 0 0 0 0 0 0 300 7 0 0 0 0 0 0 w bk hg (by decide) (by decide) cx (fun W => dec_1 W) (fun W f h1 h2 h3 => do_set1 f c 7 1 300 0 0 0 0 0 0 0 W h1 h2 h3 (by decide))
theorem step_2 (c gc : Nat) (w : World) (bk : Blk w c 36 #[.int .u64 300, .int .u64 7, .int .u64 0, .int .u64 0, .int .u64 0, .int .u64 0, .int .u64 0, .int .u64 0, .int .i64 2]) (hg : gc < w.heap.size) (cx : w.cell? ⟨gc, 2, none⟩ = some (.int .u64 66053)) :
    Calls Try.prog 8 #[.pointer (some ⟨c, 0, none⟩), .slice (some ⟨gc, 0, none⟩) 4 4, .agg #[.int .i64 0, .pointer none, .pointer none]] w fun e w' => e = .returned (.agg #[.int .i64 0, .int .i64 0, .int .u64 0]) ∧ w.grownBy w' (some c) ∧ Blk w' c 36 #[.int .u64 300, .int .u64 7, .int .u64 42, .int .u64 0, .int .u64 0, .int .u64 0, .int .u64 0, .int .u64 0, .int .i64 3] :=
  step_done c gc 4 2 66053 5 2 0 1 0 300 7 0 0 0 0 0 0 300 7 42 0 0 0 0 0 w bk hg (by decide) (by decide) cx (fun W => dec_2 W) (fun W f h1 h2 h3 => do_div2 f c 2 0 0 0 0 0 0 W h1 h2 h3 (by decide))
theorem step_3 (c gc : Nat) (w : World) (bk : Blk w c 36 #[.int .u64 300, .int .u64 7, .int .u64 42, .int .u64 0, .int .u64 0, .int .u64 0, .int .u64 0, .int .u64 0, .int .i64 3]) (hg : gc < w.heap.size) (cx : w.cell? ⟨gc, 3, none⟩ = some (.int .u64 0)) :
    Calls Try.prog 8 #[.pointer (some ⟨c, 0, none⟩), .slice (some ⟨gc, 0, none⟩) 4 4, .agg #[.int .i64 0, .pointer none, .pointer none]] w fun e w' => e = .returned (.agg #[.int .i64 2, .int .i64 3, .int .u64 0]) ∧ Below w.heap.size w w' :=
  step_trap c gc 4 3 0 0 0 0 0 0 300 7 42 0 0 0 0 0 2 3 0 w bk hg (by decide) (by decide) cx (fun W => dec_3 W) (fun W f h1 h2 h3 => do_halt f c 3 300 7 42 0 0 0 0 0 W h1 h2 h3 (by decide))
set_option maxHeartbeats 4000000 in
theorem run_awake (c gc : Nat) (tg : TypeId) (w : World) (bk : Blk w c 36 #[.int .u64 0, .int .u64 0, .int .u64 0, .int .u64 0, .int .u64 0, .int .u64 0, .int .u64 0, .int .u64 0, .int .i64 0]) (hne : gc ≠ c) (bg : Blk w gc tg #[.int .u64 314572801, .int .u64 7340289, .int .u64 66053, .int .u64 0]) :
    Calls Try.prog 9 #[.pointer (some ⟨c, 0, none⟩), .slice (some ⟨gc, 0, none⟩) 4 4, .agg #[.int .i64 0, .pointer none, .pointer none], .int .i64 9] w fun e w' => e = .returned (.tuple #[.agg #[.int .i64 2, .int .i64 3, .int .u64 0], .int .i64 3]) ∧ w.grownBy w' (some c) ∧ Blk w' c 36 #[.int .u64 300, .int .u64 7, .int .u64 42, .int .u64 0, .int .u64 0, .int .u64 0, .int .u64 0, .int .u64 0, .int .i64 3] := by
  have hc := bk.lt
  have hG := only_alloc (only_alloc (only_refl w c) (Obj.cells #[.int .i64 0, .pointer none, .pointer none] 30)) (Obj.cells #[.int .i64 0, .int .i64 0, .int .u64 0] 41)
  have bp := (Blk.new w 30 #[.int .i64 0, .pointer none, .pointer none]).alloc (Obj.cells #[.int .i64 0, .int .i64 0, .int .u64 0] 41)
  have bt := Blk.new' (w.alloc (Obj.cells #[.int .i64 0, .pointer none, .pointer none] 30)) 41 #[.int .i64 0, .int .i64 0, .int .u64 0] (g := w.heap.size + 1) (by simp)
  replace bk := (bk.alloc (Obj.cells #[.int .i64 0, .pointer none, .pointer none] 30)).alloc (Obj.cells #[.int .i64 0, .int .i64 0, .int .u64 0] 41)
  replace bg := (bg.alloc (Obj.cells #[.int .i64 0, .pointer none, .pointer none] 30)).alloc (Obj.cells #[.int .i64 0, .int .i64 0, .int .u64 0] 41)
  have HE : Hid (some (w.heap.size) ≠ some c) := by intro h; injection h with h; omega
  have HE1 : Hid (some (w.heap.size + 1) ≠ some c) := by intro h; injection h with h; omega
  have HE2 : Hid (some gc ≠ some c) := by intro h; injection h with h; exact hne h
  clear hne
  go_enter Try.func9, Try.ntmps9
  go_wp2_with fail
  refine wp_loop_rounds 4 ?_
  generalize ((w.alloc (Obj.cells #[.int .i64 0, .pointer none, .pointer none] 30)).alloc (Obj.cells #[.int .i64 0, .int .i64 0, .int .u64 0] 41)) = w0 at *
  have p0 := bp.cell 0 (.int .i64 0) rfl
  have p1 := bp.cell 1 (.pointer none) rfl
  have p2 := bp.cell 2 (.pointer none) rfl
  rw [rounds_succ]
  go_wp2_with fail
  refine (step_0 c gc _ bk bg.lt (bg.cell 0 _ rfl)).mono ?_
  rintro e v0 ⟨rfl, hgr, bk_⟩
  clear p0 p1 p2 bk
  have bk := bk_.alloc (Obj.cells #[.int .i64 0, .int .i64 0, .int .u64 0] 41)
  replace bg := (bg.grown hgr HE2.out).alloc (Obj.cells #[.int .i64 0, .int .i64 0, .int .u64 0] 41)
  replace bp := (bp.grown hgr HE.out).alloc (Obj.cells #[.int .i64 0, .int .i64 0, .int .u64 0] 41)
  replace bt := (bt.grown hgr HE1.out).alloc (Obj.cells #[.int .i64 0, .int .i64 0, .int .u64 0] 41)
  replace hG := only_alloc (only_trans hG hgr) (Obj.cells #[.int .i64 0, .int .i64 0, .int .u64 0] 41)
  clear bk_ hgr
  go_wp2_with fail
  generalize v0.alloc (Obj.cells #[.int .i64 0, .int .i64 0, .int .u64 0] 41) = w1 at *
  have p0 := bp.cell 0 (.int .i64 0) rfl
  have p1 := bp.cell 1 (.pointer none) rfl
  have p2 := bp.cell 2 (.pointer none) rfl
  rw [rounds_succ]
  go_wp2_with fail
  refine (step_1 c gc _ bk bg.lt (bg.cell 1 _ rfl)).mono ?_
  rintro e v1 ⟨rfl, hgr, bk_⟩
  clear p0 p1 p2 bk
  have bk := bk_.alloc (Obj.cells #[.int .i64 0, .int .i64 0, .int .u64 0] 41)
  replace bg := (bg.grown hgr HE2.out).alloc (Obj.cells #[.int .i64 0, .int .i64 0, .int .u64 0] 41)
  replace bp := (bp.grown hgr HE.out).alloc (Obj.cells #[.int .i64 0, .int .i64 0, .int .u64 0] 41)
  replace bt := (bt.grown hgr HE1.out).alloc (Obj.cells #[.int .i64 0, .int .i64 0, .int .u64 0] 41)
  replace hG := only_alloc (only_trans hG hgr) (Obj.cells #[.int .i64 0, .int .i64 0, .int .u64 0] 41)
  clear bk_ hgr
  go_wp2_with fail
  generalize v1.alloc (Obj.cells #[.int .i64 0, .int .i64 0, .int .u64 0] 41) = w2 at *
  have p0 := bp.cell 0 (.int .i64 0) rfl
  have p1 := bp.cell 1 (.pointer none) rfl
  have p2 := bp.cell 2 (.pointer none) rfl
  rw [rounds_succ]
  go_wp2_with fail
  refine (step_2 c gc _ bk bg.lt (bg.cell 2 _ rfl)).mono ?_
  rintro e v2 ⟨rfl, hgr, bk_⟩
  clear p0 p1 p2 bk
  have bk := bk_.alloc (Obj.cells #[.int .i64 0, .int .i64 0, .int .u64 0] 41)
  replace bg := (bg.grown hgr HE2.out).alloc (Obj.cells #[.int .i64 0, .int .i64 0, .int .u64 0] 41)
  replace bp := (bp.grown hgr HE.out).alloc (Obj.cells #[.int .i64 0, .int .i64 0, .int .u64 0] 41)
  replace bt := (bt.grown hgr HE1.out).alloc (Obj.cells #[.int .i64 0, .int .i64 0, .int .u64 0] 41)
  replace hG := only_alloc (only_trans hG hgr) (Obj.cells #[.int .i64 0, .int .i64 0, .int .u64 0] 41)
  clear bk_ hgr
  go_wp2_with fail
  generalize v2.alloc (Obj.cells #[.int .i64 0, .int .i64 0, .int .u64 0] 41) = w3 at *
  have p0 := bp.cell 0 (.int .i64 0) rfl
  have p1 := bp.cell 1 (.pointer none) rfl
  have p2 := bp.cell 2 (.pointer none) rfl
  rw [rounds_succ]
  go_wp2_with fail
  refine (step_3 c gc _ bk bg.lt (bg.cell 3 _ rfl)).mono ?_
  rintro e v3 ⟨rfl, hb⟩
  clear p0 p1 p2
  replace bk := bk.keep hb
  replace bt := bt.keep hb
  replace hG := only_below hG hb
  clear hb bp bg
  have k0 := bt.cell 0 (.int .i64 0) rfl
  have k1 := bt.cell 1 (.int .i64 0) rfl
  have k2 := bt.cell 2 (.int .u64 0) rfl
  have l0 := bt.frozen 0
  have l1 := bt.frozen 1
  have l2 := bt.frozen 2
  have hlt := bt.lt
  go_wp2_with fail
  have hG5 := only_alloc (only_far (only_far (only_far (hG) (p := ⟨w.heap.size + 1, 0, none⟩) (by simp) (.int .i64 2)) (p := ⟨w.heap.size + 1, 1, none⟩) (by simp) (.int .i64 3)) (p := ⟨w.heap.size + 1, 2, none⟩) (by simp) (.int .u64 0)) (Obj.cells #[.int .i64 2, .int .i64 3, .int .u64 0] 41)
  have hK5 := ((((bk).far (p := ⟨w.heap.size + 1, 0, none⟩) (by simp; omega) (.int .i64 2)).far (p := ⟨w.heap.size + 1, 1, none⟩) (by simp; omega) (.int .i64 3)).far (p := ⟨w.heap.size + 1, 2, none⟩) (by simp; omega) (.int .u64 0)).alloc (Obj.cells #[.int .i64 2, .int .i64 3, .int .u64 0] 41)
  exact bodyPost_ret (v := .tuple #[.agg #[.int .i64 2, .int .i64 3, .int .u64 0], .int .i64 3]) (by simp [results, Try.results9, go_sem, *]) rfl ⟨rfl, hG5, hK5⟩
set_option maxHeartbeats 4000000 in
theorem awake_any (w : World) : Calls Try.prog 5 #[] w fun e w' => e = .returned (.bool true) ∧ Below w.heap.size w w' := by
  go_enter Try.func5, Try.ntmps5
  go_wp2_with fail
  refine (word_0 _).mono ?_
  rintro e w1 ⟨rfl, hB⟩
  go_wp2_with fail
  refine (word_1 _).mono ?_
  rintro e w2 ⟨rfl, hb⟩
  replace hB := bstep hB (Nat.le_refl _) hb
  clear hb
  go_wp2_with fail
  refine (word_2 _).mono ?_
  rintro e w3 ⟨rfl, hb⟩
  replace hB := bstep hB (Nat.le_refl _) hb
  clear hb
  go_wp2_with fail
  have bg := (Blk.new w3 33 #[.int .u64 314572801, .int .u64 7340289, .int .u64 66053, .int .u64 0]).alloc (Obj.cells #[.int .u64 0, .int .u64 0, .int .u64 0, .int .u64 0, .int .u64 0, .int .u64 0, .int .u64 0, .int .u64 0, .int .i64 0] 36)
  have bk := Blk.new' (w3.alloc (Obj.cells #[.int .u64 314572801, .int .u64 7340289, .int .u64 66053, .int .u64 0] 33)) 36 #[.int .u64 0, .int .u64 0, .int .u64 0, .int .u64 0, .int .u64 0, .int .u64 0, .int .u64 0, .int .u64 0, .int .i64 0] (g := w3.heap.size + 1) (by simp)
  have hs := hB.size
  replace hB := (hB.alloc hs (Obj.cells #[.int .u64 314572801, .int .u64 7340289, .int .u64 66053, .int .u64 0] 33)).alloc (by simp; omega) (Obj.cells #[.int .u64 0, .int .u64 0, .int .u64 0, .int .u64 0, .int .u64 0, .int .u64 0, .int .u64 0, .int .u64 0, .int .i64 0] 36)
  generalize ((w3.alloc (Obj.cells #[.int .u64 314572801, .int .u64 7340289, .int .u64 66053, .int .u64 0] 33)).alloc (Obj.cells #[.int .u64 0, .int .u64 0, .int .u64 0, .int .u64 0, .int .u64 0, .int .u64 0, .int .u64 0, .int .u64 0, .int .i64 0] 36)) = w4 at *
  refine (run_awake (w3.heap.size + 1) w3.heap.size 33 w4 bk (by omega) bg).mono ?_
  rintro e w5 ⟨rfl, hgr, bk2⟩
  have hX := hB.grown hgr hB.size (fun k hk => by injection hk with hk; omega)
  have q2 := bk2.cell 2 (.int .u64 42) rfl
  have hlt := bk2.lt
  clear bk bg hB hgr
  go_wp2_with fail
  go_ret
  exact ⟨rfl, hX.alloc hX.size _⟩
end Go.Proofs.Ytpimflmmfnffeaa
