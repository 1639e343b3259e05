/- Walk: the chapter's example. -/
import Derived.Test.YtldpplfkimdaaaaW2
namespace Go.Proofs.Ytldpplfkimdaaaa
open Go.RowKit Go.Conc

theorem Ch.cell {a w : World} {g b o : Nat} {v : Value} (h : Ch a w g) (hc : a.cell? ⟨b, o, none⟩ = some v) (h1 : b ≠ g) (h2 : b ≠ g + 1) : w.cell? ⟨b, o, none⟩ = some v := by
  rw [World.cell?_of_block (w := a) (h.block b (World.block_lt_of_cell? a _ hc) h1 h2)]
  exact hc

set_option maxRecDepth 100000 in
set_option maxHeartbeats 4000000 in
theorem awake_any (w : World) : Calls Try.prog 7 #[] w fun e w' => e = .returned (.bool true) ∧ Below w.heap.size w w' := by
  have P1 : Hid (∀ W, Bx W w.heap.size ⟨[], 2, false⟩ → Calls Try.prog 10 #[.pointer (some ⟨w.heap.size + 1, 0, none⟩), .agg #[.int .i64 0, .int .u64 1]] W fun e w' => e = .returned (.int .i64 0) ∧ Bx w' w.heap.size ⟨[⟨0, 1⟩], 2, false⟩ ∧ Ch W w' w.heap.size) := fun W h => put_open ⟨[], 2, false⟩ ⟨0, 1⟩ w.heap.size W h rfl (by simp)
  have P2 : Hid (∀ W, Bx W w.heap.size ⟨[⟨0, 1⟩], 2, false⟩ → Calls Try.prog 10 #[.pointer (some ⟨w.heap.size + 1, 0, none⟩), .agg #[.int .i64 0, .int .u64 2]] W fun e w' => e = .returned (.int .i64 0) ∧ Bx w' w.heap.size ⟨[⟨0, 1⟩, ⟨0, 2⟩], 2, false⟩ ∧ Ch W w' w.heap.size) := fun W h => put_open ⟨[⟨0, 1⟩], 2, false⟩ ⟨0, 2⟩ w.heap.size W h rfl (by simp)
  have P3 : Hid (∀ W, Bx W w.heap.size ⟨[⟨0, 1⟩, ⟨0, 2⟩], 2, false⟩ → Calls Try.prog 10 #[.pointer (some ⟨w.heap.size + 1, 0, none⟩), .agg #[.int .i64 0, .int .u64 3]] W fun e w' => e = .returned (.int .i64 20) ∧ Bx w' w.heap.size ⟨[⟨0, 1⟩, ⟨0, 2⟩], 2, false⟩ ∧ Ch W w' w.heap.size) := fun W h => put_full ⟨[⟨0, 1⟩, ⟨0, 2⟩], 2, false⟩ ⟨0, 3⟩ w.heap.size W h rfl (by simp)
  have P4 : Hid (∀ W, Bx W w.heap.size ⟨[⟨0, 2⟩], 2, true⟩ → Calls Try.prog 10 #[.pointer (some ⟨w.heap.size + 1, 0, none⟩), .agg #[.int .i64 0, .int .u64 4]] W fun e w' => e = .returned (.int .i64 25) ∧ Bx w' w.heap.size ⟨[⟨0, 2⟩], 2, true⟩ ∧ Ch W w' w.heap.size) := fun W h => put_shut ⟨[⟨0, 2⟩], 2, true⟩ ⟨0, 4⟩ w.heap.size W h rfl
  have T1 := Lib.hid (fun W h => take_some ⟨0, 1⟩ [⟨0, 2⟩] 2 false w.heap.size W h)
  have T2 := Lib.hid (fun W h => take_some ⟨0, 2⟩ [] 2 true w.heap.size W h)
  have T3 := Lib.hid (fun W h => take_shut 2 w.heap.size W h)
  have S1 := Lib.hid (fun W h => shut_yes ⟨[⟨0, 2⟩], 2, false⟩ w.heap.size W h rfl)
  go_enter Try.func7, Try.ntmps7
  go_wp2_with fail
  refine (new_yes 2 _ (by omega) (by omega)).mono ?_
  rintro e w1 ⟨rfl, hx, hB⟩
  go_wp2_with fail
  refine (P1.out _ hx).mono ?_
  rintro e w2 ⟨rfl, hx', hc⟩
  replace hB := below_ch hB (Nat.le_refl _) hc
  replace hx := hx'
  clear hx'
  clear hc
  go_wp2_with fail
  refine (P2.out _ hx).mono ?_
  rintro e w3 ⟨rfl, hx', hc⟩
  replace hB := below_ch hB (Nat.le_refl _) hc
  replace hx := hx'
  clear hx'
  clear hc
  go_wp2_with fail
  refine (P3.out _ hx).mono ?_
  rintro e w4 ⟨rfl, hx', hc⟩
  replace hB := below_ch hB (Nat.le_refl _) hc
  replace hx := hx'
  clear hx'
  clear hc
  go_wp2_with fail
  refine (T1.out _ hx).mono ?_
  rintro e w5 ⟨rfl, hx', hc⟩
  replace hB := below_ch hB (Nat.le_refl _) hc
  replace hx := hx'
  clear hx'
  clear hc
  go_wp2_with fail
  have b6 := Blk.new w5 32 #[.int .i64 0, .int .u64 1]
  have y1 := b6.cell 1 (.int .u64 1) rfl
  have hlt6 := hx.2.lt
  replace hx := hx.alloc (Obj.cells #[.int .i64 0, .int .u64 1] 32)
  replace hB := hB.alloc hB.size (Obj.cells #[.int .i64 0, .int .u64 1] 32)
  generalize w5.alloc (Obj.cells #[.int .i64 0, .int .u64 1] 32) = w6 at *
  generalize w5.heap.size = g6 at *
  clear b6
  refine (S1.out _ hx).mono ?_
  rintro e w7 ⟨rfl, hx', hc⟩
  replace hB := below_ch hB (Nat.le_refl _) hc
  replace y1 := hc.cell y1 (by omega) (by omega)
  replace hx : Bx w7 w.heap.size ⟨[⟨0, 2⟩], 2, true⟩ := hx'
  clear hx' hc
  go_wp2_with fail
  refine (P4.out _ hx).mono ?_
  rintro e w8 ⟨rfl, hx', hc⟩
  replace hB := below_ch hB (Nat.le_refl _) hc
  replace y1 := hc.cell y1 (by omega) (by omega)
  replace hx := hx'
  clear hx' hc
  go_wp2_with fail
  refine (T2.out _ hx).mono ?_
  rintro e w9 ⟨rfl, hx', hc⟩
  replace hB := below_ch hB (Nat.le_refl _) hc
  replace y1 := hc.cell y1 (by omega) (by omega)
  replace hx := hx'
  clear hx' hc
  go_wp2_with fail
  have b10 := Blk.new w9 32 #[.int .i64 0, .int .u64 2]
  have z1 := b10.cell 1 (.int .u64 2) rfl
  have hlt10 := hx.2.lt
  replace y1 := kcell (below1 w9 (Obj.cells #[.int .i64 0, .int .u64 2] 32)) y1
  replace hx := hx.alloc (Obj.cells #[.int .i64 0, .int .u64 2] 32)
  replace hB := hB.alloc hB.size (Obj.cells #[.int .i64 0, .int .u64 2] 32)
  generalize w9.alloc (Obj.cells #[.int .i64 0, .int .u64 2] 32) = w10 at *
  generalize w9.heap.size = g10 at *
  clear b10
  refine (T3.out _ hx).mono ?_
  rintro e w11 ⟨rfl, hx', hc⟩
  replace hB := below_ch hB (Nat.le_refl _) hc
  replace y1 := hc.cell y1 (by omega) (by omega)
  replace z1 := hc.cell z1 (by omega) (by omega)
  have hly : g6 < w11.heap.size := World.block_lt_of_cell? _ _ y1
  have hlz : g10 < w11.heap.size := World.block_lt_of_cell? _ _ z1
  clear hx' hc hx
  go_wp2_with fail
  go_ret
  exact ⟨rfl, hB.alloc hB.size _⟩
end Go.Proofs.Ytldpplfkimdaaaa
