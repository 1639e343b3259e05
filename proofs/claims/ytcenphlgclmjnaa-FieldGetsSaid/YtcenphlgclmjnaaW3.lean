/- Walks: a field read with a sign, and the statement FieldGets. -/
import Derived.Test.YtcenphlgclmjnaaW2
namespace Go.Proofs.Ytcenphlgclmjnaa
open Go.RowKit

theorem keep4 {W w1 w2 : World} {p q r t : Addr} {v u x y : Value} (h : Below W.heap.size W w1 ∧ w1.cell? p = some v ∧ w1.cell? q = some u ∧ w1.cell? r = some x ∧ w1.cell? t = some y) (hb : Below w1.heap.size w1 w2) :
    Below W.heap.size W w2 ∧ w2.cell? p = some v ∧ w2.cell? q = some u ∧ w2.cell? r = some x ∧ w2.cell? t = some y :=
  ⟨bstep h.1 (Nat.le_refl _) hb, kcell hb h.2.1, kcell hb h.2.2.1, kcell hb h.2.2.2.1, kcell hb h.2.2.2.2⟩

set_option maxHeartbeats 400000 in
theorem signed_no (a s x : Int) (w : World) (h : rightB a s = false) :
    Calls Try.prog 17 #[.agg #[.int .i64 a, .int .i64 s], .int .u64 x] w fun e w' => e = .returned (.int .i64 0) ∧ Below w.heap.size w w' := by
  go_enter Try.func17, Try.ntmps17
  go_wp2_with (go_at_call 11; refine (right_any _ _ _).mono ?_; rintro e w' ⟨rfl, hb⟩)
  go_ret
  exact ⟨rfl, bstep (below1 _ _) (Nat.le_refl _) hb⟩

/-- how the program reads a number of s bits with a sign -/
def signI (s y : Int) : Int := if (bits BinOp.and IntKind.u64 (y / 2 ^ (s.toNat - 1)) 1 == 1) = true then wrap64 (bits BinOp.or IntKind.u64 y (bits BinOp.xor IntKind.u64 IntKind.u64.max (mostI s))) else wrap64 y

set_option maxHeartbeats 400000 in
theorem signed_at (a s x y : Int) (w : World) (h1 : 1 ≤ s) (h2 : s ≤ 64) (h3 : 0 ≤ a) (h4 : a + s ≤ 64)
    (hget : Shut (∀ w : World, Calls Try.prog 9 #[.agg #[.int .i64 a, .int .i64 s], .int .u64 x] w fun e w' => e = .returned (.int .u64 y) ∧ Below w.heap.size w w'))
    (y0 : 0 ≤ y) (y1 : y < 18446744073709551616) :
    Calls Try.prog 17 #[.agg #[.int .i64 a, .int .i64 s], .int .u64 x] w fun e w' => e = .returned (.int .i64 (signI s y)) ∧ Below w.heap.size w w' := by
  have hr := rightB_t ⟨h1, h2, h3, h4⟩
  have ht := two_pow_lt s h1 h2
  have c0 : (w.alloc (Obj.cells #[.int .i64 a, .int .i64 s] 27)).cell? ⟨w.heap.size, 0, none⟩ = some (.int .i64 a) := by simp
  have c1 : (w.alloc (Obj.cells #[.int .i64 a, .int .i64 s] 27)).cell? ⟨w.heap.size, 1, none⟩ = some (.int .i64 s) := by simp
  have hB : Below (w.heap.size + 1) (w.alloc (Obj.cells #[.int .i64 a, .int .i64 s] 27)) (w.alloc (Obj.cells #[.int .i64 a, .int .i64 s] 27)) := Below.refl _ _
  go_enter Try.func17, Try.ntmps17
  go_wp2_with (first | (go_at_call 11; refine (right_any _ _ _).mono ?_; rintro e w2 ⟨rfl, hb⟩; replace c0 := kcell hb c0; replace c1 := kcell hb c1; replace hB := bstep hB (by simp) hb; clear hb) | (go_at_call 9; refine (hget.out _).mono ?_; rintro e w2 ⟨rfl, hb⟩; replace c0 := kcell hb c0; replace c1 := kcell hb c1; replace hB := bstep hB (by simp) hb; clear hb) | (go_at_call 13; refine (most_yes _ _ _ h1 h2 h3 h4).mono ?_; rintro e w2 ⟨rfl, hb⟩; replace c0 := kcell hb c0; replace c1 := kcell hb c1; replace hB := bstep hB (by simp) hb; clear hb))
  all_goals go_ret
  all_goals refine ⟨ret_int ?_, (below1 _ _).trans (hB.mono (by simp))⟩
  · unfold signI; rw [if_pos ‹_›]
  · unfold signI; rw [if_neg (by simpa using ‹(bits BinOp.and IntKind.u64 (y / 2 ^ (s.toNat - 1)) 1 == 1) = false›)]

set_option maxHeartbeats 1000000 in
theorem fieldGets_neg (a s x y z : Int) (w : World) (h1 : 1 ≤ s) (h2 : s < 64) (h3 : 0 ≤ a) (h4 : a + s ≤ 64)
    (hget : Shut (∀ w : World, Calls Try.prog 9 #[.agg #[.int .i64 a, .int .i64 s], .int .u64 x] w fun e w' => e = .returned (.int .u64 y) ∧ Below w.heap.size w w'))
    (href : Shut (∀ w : World, Calls Try.prog 15 #[.agg #[.int .i64 a, .int .i64 s], .int .u64 x] w fun e w' => e = .returned (.int .u64 y) ∧ Below w.heap.size w w'))
    (hsig : Shut (∀ w : World, Calls Try.prog 17 #[.agg #[.int .i64 a, .int .i64 s], .int .u64 x] w fun e w' => e = .returned (.int .i64 z) ∧ Below w.heap.size w w'))
    (hbit : Shut (∀ w : World, Calls Try.prog 16 #[.int .u64 x, .int .i64 (a + s - 1)] w fun e w' => e = .returned (.bool true) ∧ w = w'))
    (y0 : 0 ≤ y) (y1 : y < 18446744073709551616) (hz : z = wrap64 (wrap64 y - wrap64 (2 ^ s.toNat))) :
    Calls Try.prog 4 #[.agg #[.int .i64 a, .int .i64 s], .int .u64 x] w fun e w' => e = .returned (.bool true) ∧ Below w.heap.size w w' := by
  have hr := rightB_t ⟨h1, show s ≤ 64 by omega, h3, h4⟩
  have HZ := Lib.hid hz
  clear hz
  have c0 : (w.alloc (Obj.cells #[.int .i64 a, .int .i64 s] 23)).cell? ⟨w.heap.size, 0, none⟩ = some (.int .i64 a) := by simp
  have c1 : (w.alloc (Obj.cells #[.int .i64 a, .int .i64 s] 23)).cell? ⟨w.heap.size, 1, none⟩ = some (.int .i64 s) := by simp
  have hB : Below (w.heap.size + 1) (w.alloc (Obj.cells #[.int .i64 a, .int .i64 s] 23)) (w.alloc (Obj.cells #[.int .i64 a, .int .i64 s] 23)) := Below.refl _ _
  go_enter Try.func4, Try.ntmps4
  go_wp2_with (first | (go_at_call 6; refine (to_any _ _ _).mono ?_; rintro e w2 ⟨rfl, hb⟩; replace c0 := kcell hb c0; replace c1 := kcell hb c1; replace hB := bstep hB (by simp) hb; clear hb))
  replace c0 := kcell (below1 w2 (Obj.cells #[Value.int IntKind.i64 a, Value.int IntKind.i64 s] 27)) c0
  replace c1 := kcell (below1 w2 (Obj.cells #[Value.int IntKind.i64 a, Value.int IntKind.i64 s] 27)) c1
  have d0 : (w2.alloc (Obj.cells #[.int .i64 a, .int .i64 s] 27)).cell? ⟨w2.heap.size, 0, none⟩ = some (.int .i64 a) := by simp
  have d1 : (w2.alloc (Obj.cells #[.int .i64 a, .int .i64 s] 27)).cell? ⟨w2.heap.size, 1, none⟩ = some (.int .i64 s) := by simp
  replace hB := bstep hB (by simp) (below1 w2 (Obj.cells #[Value.int IntKind.i64 a, Value.int IntKind.i64 s] 27))
  generalize (w2.alloc (Obj.cells #[Value.int IntKind.i64 a, Value.int IntKind.i64 s] 27)) = w3 at *
  go_region_held3 (fun w' => Below w3.heap.size w3 w' ∧ w'.cell? ⟨w.heap.size, 0, none⟩ = some (.int .i64 a) ∧ w'.cell? ⟨w.heap.size, 1, none⟩ = some (.int .i64 s) ∧ w'.cell? ⟨w2.heap.size, 0, none⟩ = some (.int .i64 a) ∧ w'.cell? ⟨w2.heap.size, 1, none⟩ = some (.int .i64 s))
    (first | exact ⟨(Below.refl _ _).drew, c0, c1, d0, d1⟩ | exact keep4 ‹_› hb)
    (first | (go_at_call 11; refine (right_any _ _ _).mono ?_; rintro e w4 ⟨rfl, hb⟩) | (go_at_call 12; refine (refRight_any _ _ _).mono ?_; rintro e w4 ⟨rfl, hb⟩) | (go_at_call 13; refine (most_yes _ _ _ h1 (by omega) h3 h4).mono ?_; rintro e w4 ⟨rfl, hb⟩) | (go_at_call 14; refine (refMost_yes _ _ _ h1 (by omega) h3 h4).mono ?_; rintro e w4 ⟨rfl, hb⟩) | (go_at_call 9; refine (hget.out _).mono ?_; rintro e w4 ⟨rfl, hb⟩) | (go_at_call 15; refine (href.out _).mono ?_; rintro e w4 ⟨rfl, hb⟩))
  clear c0 c1 d0 d1
  rename_i hH
  obtain ⟨hb4, c0, c1, d0, d1⟩ := hH
  replace hB := bstep hB (by simp) hb4
  clear hb hb4
  go_wp2_with (first | (go_at_call 15; refine (href.out _).mono ?_; rintro e w2 ⟨rfl, hb⟩; replace c0 := kcell hb c0; replace c1 := kcell hb c1; replace d0 := kcell hb d0; replace d1 := kcell hb d1; replace hB := bstep hB (by simp) hb; clear hb) | (go_at_call 12; refine (refRight_any _ _ _).mono ?_; rintro e w2 ⟨rfl, hb⟩; replace c0 := kcell hb c0; replace c1 := kcell hb c1; replace d0 := kcell hb d0; replace d1 := kcell hb d1; replace hB := bstep hB (by simp) hb; clear hb) | (go_at_call 16; refine (hbit.out _).mono ?_; rintro e w5 ⟨rfl, rfl⟩) | (go_at_call 17; refine (hsig.out _).mono ?_; rintro e w2 ⟨rfl, hb⟩; replace c0 := kcell hb c0; replace c1 := kcell hb c1; replace d0 := kcell hb d0; replace d1 := kcell hb d1; replace hB := bstep hB (by simp) hb; clear hb) | (go_at_call 10; refine (awake_any _).mono ?_; rintro e w2 ⟨rfl, hb⟩; replace c0 := kcell hb c0; replace c1 := kcell hb c1; replace d0 := kcell hb d0; replace d1 := kcell hb d1; replace hB := bstep hB (by simp) hb; clear hb))
  go_ret
  exact ⟨rfl, (below1 _ _).trans (hB.mono (by simp))⟩

set_option maxHeartbeats 1000000 in
theorem fieldGets_pos (a s x y z : Int) (w : World) (h1 : 1 ≤ s) (h2 : s < 64) (h3 : 0 ≤ a) (h4 : a + s ≤ 64)
    (hget : Shut (∀ w : World, Calls Try.prog 9 #[.agg #[.int .i64 a, .int .i64 s], .int .u64 x] w fun e w' => e = .returned (.int .u64 y) ∧ Below w.heap.size w w'))
    (href : Shut (∀ w : World, Calls Try.prog 15 #[.agg #[.int .i64 a, .int .i64 s], .int .u64 x] w fun e w' => e = .returned (.int .u64 y) ∧ Below w.heap.size w w'))
    (hsig : Shut (∀ w : World, Calls Try.prog 17 #[.agg #[.int .i64 a, .int .i64 s], .int .u64 x] w fun e w' => e = .returned (.int .i64 z) ∧ Below w.heap.size w w'))
    (hbit : Shut (∀ w : World, Calls Try.prog 16 #[.int .u64 x, .int .i64 (a + s - 1)] w fun e w' => e = .returned (.bool false) ∧ w = w'))
    (y0 : 0 ≤ y) (y1 : y < 18446744073709551616) (hz : z = wrap64 y) :
    Calls Try.prog 4 #[.agg #[.int .i64 a, .int .i64 s], .int .u64 x] w fun e w' => e = .returned (.bool true) ∧ Below w.heap.size w w' := by
  have hr := rightB_t ⟨h1, show s ≤ 64 by omega, h3, h4⟩
  have HZ := Lib.hid hz
  clear hz
  have c0 : (w.alloc (Obj.cells #[.int .i64 a, .int .i64 s] 23)).cell? ⟨w.heap.size, 0, none⟩ = some (.int .i64 a) := by simp
  have c1 : (w.alloc (Obj.cells #[.int .i64 a, .int .i64 s] 23)).cell? ⟨w.heap.size, 1, none⟩ = some (.int .i64 s) := by simp
  have hB : Below (w.heap.size + 1) (w.alloc (Obj.cells #[.int .i64 a, .int .i64 s] 23)) (w.alloc (Obj.cells #[.int .i64 a, .int .i64 s] 23)) := Below.refl _ _
  go_enter Try.func4, Try.ntmps4
  go_wp2_with (first | (go_at_call 6; refine (to_any _ _ _).mono ?_; rintro e w2 ⟨rfl, hb⟩; replace c0 := kcell hb c0; replace c1 := kcell hb c1; replace hB := bstep hB (by simp) hb; clear hb))
  replace c0 := kcell (below1 w2 (Obj.cells #[Value.int IntKind.i64 a, Value.int IntKind.i64 s] 27)) c0
  replace c1 := kcell (below1 w2 (Obj.cells #[Value.int IntKind.i64 a, Value.int IntKind.i64 s] 27)) c1
  have d0 : (w2.alloc (Obj.cells #[.int .i64 a, .int .i64 s] 27)).cell? ⟨w2.heap.size, 0, none⟩ = some (.int .i64 a) := by simp
  have d1 : (w2.alloc (Obj.cells #[.int .i64 a, .int .i64 s] 27)).cell? ⟨w2.heap.size, 1, none⟩ = some (.int .i64 s) := by simp
  replace hB := bstep hB (by simp) (below1 w2 (Obj.cells #[Value.int IntKind.i64 a, Value.int IntKind.i64 s] 27))
  generalize (w2.alloc (Obj.cells #[Value.int IntKind.i64 a, Value.int IntKind.i64 s] 27)) = w3 at *
  go_region_held3 (fun w' => Below w3.heap.size w3 w' ∧ w'.cell? ⟨w.heap.size, 0, none⟩ = some (.int .i64 a) ∧ w'.cell? ⟨w.heap.size, 1, none⟩ = some (.int .i64 s) ∧ w'.cell? ⟨w2.heap.size, 0, none⟩ = some (.int .i64 a) ∧ w'.cell? ⟨w2.heap.size, 1, none⟩ = some (.int .i64 s))
    (first | exact ⟨(Below.refl _ _).drew, c0, c1, d0, d1⟩ | exact keep4 ‹_› hb)
    (first | (go_at_call 11; refine (right_any _ _ _).mono ?_; rintro e w4 ⟨rfl, hb⟩) | (go_at_call 12; refine (refRight_any _ _ _).mono ?_; rintro e w4 ⟨rfl, hb⟩) | (go_at_call 13; refine (most_yes _ _ _ h1 (by omega) h3 h4).mono ?_; rintro e w4 ⟨rfl, hb⟩) | (go_at_call 14; refine (refMost_yes _ _ _ h1 (by omega) h3 h4).mono ?_; rintro e w4 ⟨rfl, hb⟩) | (go_at_call 9; refine (hget.out _).mono ?_; rintro e w4 ⟨rfl, hb⟩) | (go_at_call 15; refine (href.out _).mono ?_; rintro e w4 ⟨rfl, hb⟩))
  clear c0 c1 d0 d1
  rename_i hH
  obtain ⟨hb4, c0, c1, d0, d1⟩ := hH
  replace hB := bstep hB (by simp) hb4
  clear hb hb4
  go_wp2_with (first | (go_at_call 15; refine (href.out _).mono ?_; rintro e w2 ⟨rfl, hb⟩; replace c0 := kcell hb c0; replace c1 := kcell hb c1; replace d0 := kcell hb d0; replace d1 := kcell hb d1; replace hB := bstep hB (by simp) hb; clear hb) | (go_at_call 12; refine (refRight_any _ _ _).mono ?_; rintro e w2 ⟨rfl, hb⟩; replace c0 := kcell hb c0; replace c1 := kcell hb c1; replace d0 := kcell hb d0; replace d1 := kcell hb d1; replace hB := bstep hB (by simp) hb; clear hb) | (go_at_call 16; refine (hbit.out _).mono ?_; rintro e w5 ⟨rfl, rfl⟩) | (go_at_call 17; refine (hsig.out _).mono ?_; rintro e w2 ⟨rfl, hb⟩; replace c0 := kcell hb c0; replace c1 := kcell hb c1; replace d0 := kcell hb d0; replace d1 := kcell hb d1; replace hB := bstep hB (by simp) hb; clear hb) | (go_at_call 10; refine (awake_any _).mono ?_; rintro e w2 ⟨rfl, hb⟩; replace c0 := kcell hb c0; replace c1 := kcell hb c1; replace d0 := kcell hb d0; replace d1 := kcell hb d1; replace hB := bstep hB (by simp) hb; clear hb))
  go_ret
  exact ⟨rfl, (below1 _ _).trans (hB.mono (by simp))⟩

set_option maxHeartbeats 1000000 in
theorem fieldGets_all (a s x y z : Int) (w : World) (h1 : 1 ≤ s) (h2 : s = 64) (h3 : 0 ≤ a) (h4 : a + s ≤ 64)
    (hget : Shut (∀ w : World, Calls Try.prog 9 #[.agg #[.int .i64 a, .int .i64 s], .int .u64 x] w fun e w' => e = .returned (.int .u64 y) ∧ Below w.heap.size w w'))
    (href : Shut (∀ w : World, Calls Try.prog 15 #[.agg #[.int .i64 a, .int .i64 s], .int .u64 x] w fun e w' => e = .returned (.int .u64 y) ∧ Below w.heap.size w w'))
    (hsig : Shut (∀ w : World, Calls Try.prog 17 #[.agg #[.int .i64 a, .int .i64 s], .int .u64 x] w fun e w' => e = .returned (.int .i64 z) ∧ Below w.heap.size w w'))
    (y0 : 0 ≤ y) (y1 : y < 18446744073709551616) (hz : z = wrap64 y) :
    Calls Try.prog 4 #[.agg #[.int .i64 a, .int .i64 s], .int .u64 x] w fun e w' => e = .returned (.bool true) ∧ Below w.heap.size w w' := by
  have hr := rightB_t ⟨h1, show s ≤ 64 by omega, h3, h4⟩
  have h2a : 64 ≤ s := by omega
  have h2b : s ≤ 64 := by omega
  clear h2
  have HZ := Lib.hid hz
  clear hz
  have c0 : (w.alloc (Obj.cells #[.int .i64 a, .int .i64 s] 23)).cell? ⟨w.heap.size, 0, none⟩ = some (.int .i64 a) := by simp
  have c1 : (w.alloc (Obj.cells #[.int .i64 a, .int .i64 s] 23)).cell? ⟨w.heap.size, 1, none⟩ = some (.int .i64 s) := by simp
  have hB : Below (w.heap.size + 1) (w.alloc (Obj.cells #[.int .i64 a, .int .i64 s] 23)) (w.alloc (Obj.cells #[.int .i64 a, .int .i64 s] 23)) := Below.refl _ _
  go_enter Try.func4, Try.ntmps4
  go_wp2_with (first | (go_at_call 6; refine (to_any _ _ _).mono ?_; rintro e w2 ⟨rfl, hb⟩; replace c0 := kcell hb c0; replace c1 := kcell hb c1; replace hB := bstep hB (by simp) hb; clear hb))
  replace c0 := kcell (below1 w2 (Obj.cells #[Value.int IntKind.i64 a, Value.int IntKind.i64 s] 27)) c0
  replace c1 := kcell (below1 w2 (Obj.cells #[Value.int IntKind.i64 a, Value.int IntKind.i64 s] 27)) c1
  have d0 : (w2.alloc (Obj.cells #[.int .i64 a, .int .i64 s] 27)).cell? ⟨w2.heap.size, 0, none⟩ = some (.int .i64 a) := by simp
  have d1 : (w2.alloc (Obj.cells #[.int .i64 a, .int .i64 s] 27)).cell? ⟨w2.heap.size, 1, none⟩ = some (.int .i64 s) := by simp
  replace hB := bstep hB (by simp) (below1 w2 (Obj.cells #[Value.int IntKind.i64 a, Value.int IntKind.i64 s] 27))
  generalize (w2.alloc (Obj.cells #[Value.int IntKind.i64 a, Value.int IntKind.i64 s] 27)) = w3 at *
  go_region_held3 (fun w' => Below w3.heap.size w3 w' ∧ w'.cell? ⟨w.heap.size, 0, none⟩ = some (.int .i64 a) ∧ w'.cell? ⟨w.heap.size, 1, none⟩ = some (.int .i64 s) ∧ w'.cell? ⟨w2.heap.size, 0, none⟩ = some (.int .i64 a) ∧ w'.cell? ⟨w2.heap.size, 1, none⟩ = some (.int .i64 s))
    (first | exact ⟨(Below.refl _ _).drew, c0, c1, d0, d1⟩ | exact keep4 ‹_› hb)
    (first | (go_at_call 11; refine (right_any _ _ _).mono ?_; rintro e w4 ⟨rfl, hb⟩) | (go_at_call 12; refine (refRight_any _ _ _).mono ?_; rintro e w4 ⟨rfl, hb⟩) | (go_at_call 13; refine (most_yes _ _ _ h1 (by omega) h3 h4).mono ?_; rintro e w4 ⟨rfl, hb⟩) | (go_at_call 14; refine (refMost_yes _ _ _ h1 (by omega) h3 h4).mono ?_; rintro e w4 ⟨rfl, hb⟩) | (go_at_call 9; refine (hget.out _).mono ?_; rintro e w4 ⟨rfl, hb⟩) | (go_at_call 15; refine (href.out _).mono ?_; rintro e w4 ⟨rfl, hb⟩))
  clear c0 c1 d0 d1
  rename_i hH
  obtain ⟨hb4, c0, c1, d0, d1⟩ := hH
  replace hB := bstep hB (by simp) hb4
  clear hb hb4
  go_wp2_with (first | (go_at_call 15; refine (href.out _).mono ?_; rintro e w2 ⟨rfl, hb⟩; replace c0 := kcell hb c0; replace c1 := kcell hb c1; replace d0 := kcell hb d0; replace d1 := kcell hb d1; replace hB := bstep hB (by simp) hb; clear hb) | (go_at_call 12; refine (refRight_any _ _ _).mono ?_; rintro e w2 ⟨rfl, hb⟩; replace c0 := kcell hb c0; replace c1 := kcell hb c1; replace d0 := kcell hb d0; replace d1 := kcell hb d1; replace hB := bstep hB (by simp) hb; clear hb) | (go_at_call 17; refine (hsig.out _).mono ?_; rintro e w2 ⟨rfl, hb⟩; replace c0 := kcell hb c0; replace c1 := kcell hb c1; replace d0 := kcell hb d0; replace d1 := kcell hb d1; replace hB := bstep hB (by simp) hb; clear hb) | (go_at_call 10; refine (awake_any _).mono ?_; rintro e w2 ⟨rfl, hb⟩; replace c0 := kcell hb c0; replace c1 := kcell hb c1; replace d0 := kcell hb d0; replace d1 := kcell hb d1; replace hB := bstep hB (by simp) hb; clear hb))
  go_ret
  exact ⟨rfl, (below1 _ _).trans (hB.mono (by simp))⟩

set_option maxHeartbeats 1000000 in
theorem fieldGets_no (a s x z : Int) (w : World) (hr : rightB a s = false) (hz : z = 0) :
    Calls Try.prog 4 #[.agg #[.int .i64 a, .int .i64 s], .int .u64 x] w fun e w' => e = .returned (.bool true) ∧ Below w.heap.size w w' := by
  have HZ := Lib.hid hz
  clear hz
  have c0 : (w.alloc (Obj.cells #[.int .i64 a, .int .i64 s] 23)).cell? ⟨w.heap.size, 0, none⟩ = some (.int .i64 a) := by simp
  have c1 : (w.alloc (Obj.cells #[.int .i64 a, .int .i64 s] 23)).cell? ⟨w.heap.size, 1, none⟩ = some (.int .i64 s) := by simp
  have hB : Below (w.heap.size + 1) (w.alloc (Obj.cells #[.int .i64 a, .int .i64 s] 23)) (w.alloc (Obj.cells #[.int .i64 a, .int .i64 s] 23)) := Below.refl _ _
  go_enter Try.func4, Try.ntmps4
  go_wp2_with (first | (go_at_call 6; refine (to_any _ _ _).mono ?_; rintro e w2 ⟨rfl, hb⟩; replace c0 := kcell hb c0; replace c1 := kcell hb c1; replace hB := bstep hB (by simp) hb; clear hb))
  replace c0 := kcell (below1 w2 (Obj.cells #[Value.int IntKind.i64 a, Value.int IntKind.i64 s] 27)) c0
  replace c1 := kcell (below1 w2 (Obj.cells #[Value.int IntKind.i64 a, Value.int IntKind.i64 s] 27)) c1
  have d0 : (w2.alloc (Obj.cells #[.int .i64 a, .int .i64 s] 27)).cell? ⟨w2.heap.size, 0, none⟩ = some (.int .i64 a) := by simp
  have d1 : (w2.alloc (Obj.cells #[.int .i64 a, .int .i64 s] 27)).cell? ⟨w2.heap.size, 1, none⟩ = some (.int .i64 s) := by simp
  replace hB := bstep hB (by simp) (below1 w2 (Obj.cells #[Value.int IntKind.i64 a, Value.int IntKind.i64 s] 27))
  generalize (w2.alloc (Obj.cells #[Value.int IntKind.i64 a, Value.int IntKind.i64 s] 27)) = w3 at *
  go_region_held3 (fun w' => Below w3.heap.size w3 w' ∧ w'.cell? ⟨w.heap.size, 0, none⟩ = some (.int .i64 a) ∧ w'.cell? ⟨w.heap.size, 1, none⟩ = some (.int .i64 s) ∧ w'.cell? ⟨w2.heap.size, 0, none⟩ = some (.int .i64 a) ∧ w'.cell? ⟨w2.heap.size, 1, none⟩ = some (.int .i64 s))
    (first | exact ⟨(Below.refl _ _).drew, c0, c1, d0, d1⟩ | exact keep4 ‹_› hb)
    (first | (go_at_call 11; refine (right_any _ _ _).mono ?_; rintro e w4 ⟨rfl, hb⟩) | (go_at_call 12; refine (refRight_any _ _ _).mono ?_; rintro e w4 ⟨rfl, hb⟩) | (go_at_call 13; refine (most_no _ _ _ hr).mono ?_; rintro e w4 ⟨rfl, hb⟩) | (go_at_call 14; refine (refMost_no _ _ _ hr).mono ?_; rintro e w4 ⟨rfl, hb⟩) | (go_at_call 9; refine (get_no _ _ _ _ hr).mono ?_; rintro e w4 ⟨rfl, hb⟩) | (go_at_call 15; refine (refGet_no _ _ _ _ hr).mono ?_; rintro e w4 ⟨rfl, hb⟩))
  clear c0 c1 d0 d1
  rename_i hH
  obtain ⟨hb4, c0, c1, d0, d1⟩ := hH
  replace hB := bstep hB (by simp) hb4
  clear hb hb4
  go_wp2_with (first | (go_at_call 15; refine (refGet_no _ _ _ _ hr).mono ?_; rintro e w2 ⟨rfl, hb⟩; replace c0 := kcell hb c0; replace c1 := kcell hb c1; replace d0 := kcell hb d0; replace d1 := kcell hb d1; replace hB := bstep hB (by simp) hb; clear hb) | (go_at_call 12; refine (refRight_any _ _ _).mono ?_; rintro e w2 ⟨rfl, hb⟩; replace c0 := kcell hb c0; replace c1 := kcell hb c1; replace d0 := kcell hb d0; replace d1 := kcell hb d1; replace hB := bstep hB (by simp) hb; clear hb) | (go_at_call 17; refine (signed_no _ _ _ _ hr).mono ?_; rintro e w2 ⟨rfl, hb⟩; replace c0 := kcell hb c0; replace c1 := kcell hb c1; replace d0 := kcell hb d0; replace d1 := kcell hb d1; replace hB := bstep hB (by simp) hb; clear hb) | (go_at_call 10; refine (awake_any _).mono ?_; rintro e w2 ⟨rfl, hb⟩; replace c0 := kcell hb c0; replace c1 := kcell hb c1; replace d0 := kcell hb d0; replace d1 := kcell hb d1; replace hB := bstep hB (by simp) hb; clear hb))
  go_ret
  exact ⟨rfl, (below1 _ _).trans (hB.mono (by simp))⟩

end Go.Proofs.Ytcenphlgclmjnaa
