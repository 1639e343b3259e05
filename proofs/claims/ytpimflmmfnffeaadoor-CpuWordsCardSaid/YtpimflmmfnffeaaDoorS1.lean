/- Walks: what catches a trap (the deferred closure of Step); what gives an instruction up. -/
import Derived.Test.YtpimflmmfnffeaaDoorW3
import Derived.Defers
import Derived.Recover
namespace Go.Proofs.YtpimflmmfnffeaaDoor
open Go.RowKit

set_option maxRecDepth 100000 in
set_option maxHeartbeats 2000000 in
theorem catch_trap (g : Nat) (k a x : Int) (v0 v1 v2 : Value) (older : List PanicEntry) (w : World) (bk : Blk w g 56 #[v0, v1, v2]) :
    CallsD Tryd.prog 29 #[.pointer (some ⟨g, 0, none⟩)] (.panicking ({ v := .iface 56 (.agg #[.int .i64 k, .int .i64 a, .int .u64 x]), recovered := false } :: older)) w fun e u' w' =>
      e = .returned (.tuple #[]) ∧ u' = .panicking ({ v := .iface 56 (.agg #[.int .i64 k, .int .i64 a, .int .u64 x]), recovered := true } :: older) ∧ w.grownBy w' (some g) ∧ Blk w' g 56 #[.int .i64 k, .int .i64 a, .int .u64 x] := by
  refine callsD_of_wpS Tryd.func29 rfl fun c₀ cs hu => ?_
  apply wpS_seq
  apply wpS_region
  simp [wpOpsS, go_sem, recoverD, hu, Tryd.ntmps29, Exit.thenS]
  refine wpS_of_wp ?_
  generalize hQ : (fun (e : Exit) (a' : Act) (w' : World) => _) = Q'
  replace hQ := Lib.hid hQ
  replace hu := Lib.hid hu
  have hta : ∀ (v : Value) (W : World), (Instr.typeAssert (.iface 56 v) 20 56 true).run Tryd.prog W = .ok (.tuple #[v, .bool true]) W := fun v W => by simp [Instr.typeAssert, go_sem]
  have c0 := bk.cell 0 v0 rfl
  have c1 := bk.cell 1 v1 rfl
  have c2 := bk.cell 2 v2 rfl
  have f0 := bk.frozen 0
  have f1 := bk.frozen 1
  have f2 := bk.frozen 2
  have hl := bk.lt
  simp only [Array.replicate_succ, Array.replicate_zero]
  go_simp
  go_wp2_with fail
  have hG := only_alloc (only_set (only_set (only_set (only_refl w g) 0 (.int .i64 k)) 1 (.int .i64 a)) 2 (.int .u64 x)) (Obj.cells #[.int .i64 k, .int .i64 a, .int .u64 x] 56)
  have bk3 := (((bk.set_ 0 (.int .i64 k)).set_ 1 (.int .i64 a)).set_ 2 (.int .u64 x)).alloc (Obj.cells #[.int .i64 k, .int .i64 a, .int .u64 x] 56)
  have hQ := hQ.out
  rw [← hQ]
  have hu := hu.out
  exact ⟨rfl, _, rfl, .tuple #[], by simp [results, Tryd.results29, go_sem], rfl, rfl, hG, bk3⟩
theorem catch_idle (g : Nat) (w : World) : CallsD Tryd.prog 29 #[.pointer (some ⟨g, 0, none⟩)] .returning w fun e u' w' => e = .returned (.tuple #[]) ∧ u' = .returning ∧ w' = w := by
  refine callsD_of_wpS Tryd.func29 rfl fun c₀ cs hu => ?_
  apply wpS_seq
  apply wpS_region
  simp [wpOpsS, go_sem, recoverD, hu, Tryd.ntmps29, Exit.thenS]
  refine wpS_of_wp ?_
  generalize hQ : (fun (e : Exit) (a' : Act) (w' : World) => _) = Q'
  replace hQ := Lib.hid hQ
  replace hu := Lib.hid hu
  simp only [Array.replicate_succ, Array.replicate_zero]
  go_simp
  go_wp2_with fail
  have hQ := hQ.out
  rw [← hQ]
  cases c₀
  have hu := hu.out
  simp_all [bodyPostS, results, Tryd.results29]
theorem give_any (f c : Nat) (k x a : Int) (w : World) (cf : w.cell? ⟨f, 0, none⟩ = some (.pointer (some ⟨c, 0, none⟩))) (ca : w.cell? ⟨c, 8, none⟩ = some (.int .i64 a)) : Calls Tryd.prog 32 #[.pointer (some ⟨f, 0, none⟩), .int .i64 k, .int .u64 x] w fun e w' => e = .panicked [{ v := .iface 56 (.agg #[.int .i64 k, .int .i64 a, .int .u64 x]), recovered := false }] ∧ w = w' := by
  go_enter Tryd.func32, Tryd.ntmps32
  go_wp2
  simp [bodyPost]
end Go.Proofs.YtpimflmmfnffeaaDoor
