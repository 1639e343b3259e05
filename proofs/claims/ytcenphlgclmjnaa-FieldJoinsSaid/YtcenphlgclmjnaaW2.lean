/- Walks over the statements of package field: that each answers true. -/
import Derived.Test.YtcenphlgclmjnaaW1
namespace Go.Proofs.Ytcenphlgclmjnaa
open Go.RowKit

set_option maxHeartbeats 400000 in
theorem to_any (a s : Int) (w : World) :
    Calls Try.prog 6 #[.agg #[.int .i64 a, .int .i64 s]] w fun e w' => e = .returned (.agg #[.int .i64 a, .int .i64 s]) ∧ Below w.heap.size w w' := by
  go_enter Try.func6, Try.ntmps6
  go_wp2
  exact bodyPost_ret (v := .agg #[.int .i64 a, .int .i64 s]) (by simp [results, Try.results6, go_sem]) rfl ⟨rfl, (below1 _ _).alloc (by simp) _⟩

set_option maxHeartbeats 400000 in
theorem awake_any (w : World) :
    Calls Try.prog 10 #[] w fun e w' => e = .returned (.bool true) ∧ Below w.heap.size w w' := by
  have h : ((Fld.putN 8 4 0 5 : Nat) : Int) = 1280 := by decide
  go_enter Try.func10, Try.ntmps10
  go_wp2_with (go_at_call 7; refine (put_yes 8 4 0 5 _ (by decide) (by decide) (by decide) (by decide) (by decide) (by decide) (by decide) (by decide)).mono ?_; rintro e w2 ⟨rfl, hb⟩)
  go_ret
  exact ⟨rfl, hb⟩

set_option maxHeartbeats 400000 in
theorem fieldPuts_no (a s x n : Int) (w : World) (h : rightB a s = false) :
    Calls Try.prog 3 #[.agg #[.int .i64 a, .int .i64 s], .int .u64 x, .int .u64 n] w fun e w' => e = .returned (.bool true) ∧ Below w.heap.size w w' := by
  have c0 : (w.alloc (Obj.cells #[.int .i64 a, .int .i64 s] 23)).cell? ⟨w.heap.size, 0, none⟩ = some (.int .i64 a) := by simp
  have c1 : (w.alloc (Obj.cells #[.int .i64 a, .int .i64 s] 23)).cell? ⟨w.heap.size, 1, none⟩ = some (.int .i64 s) := by simp
  have hB : Below (w.heap.size + 1) (w.alloc (Obj.cells #[.int .i64 a, .int .i64 s] 23)) (w.alloc (Obj.cells #[.int .i64 a, .int .i64 s] 23)) := Below.refl _ _
  go_enter Try.func3, Try.ntmps3
  go_wp2_with (first | (go_at_call 6; refine (to_any _ _ _).mono ?_; rintro e w2 ⟨rfl, hb⟩; replace c0 := kcell hb c0; replace c1 := kcell hb c1; replace hB := bstep hB (by simp) hb; clear hb) | (go_at_call 7; refine (put_no _ _ _ _ _ h).mono ?_; rintro e w2 ⟨rfl, hb⟩; replace c0 := kcell hb c0; replace c1 := kcell hb c1; replace hB := bstep hB (by simp) hb; clear hb) | (go_at_call 8; refine (refPut_no _ _ _ _ _ h).mono ?_; rintro e w2 ⟨rfl, hb⟩; replace c0 := kcell hb c0; replace c1 := kcell hb c1; replace hB := bstep hB (by simp) hb; clear hb) | (go_at_call 10; refine (awake_any _).mono ?_; rintro e w2 ⟨rfl, hb⟩; replace c0 := kcell hb c0; replace c1 := kcell hb c1; replace hB := bstep hB (by simp) hb; clear hb))
  go_ret
  exact ⟨rfl, (below1 _ _).trans (hB.mono (by simp))⟩

set_option maxHeartbeats 400000 in
theorem fieldPuts_big (a s x n : Int) (w : World) (h1 : 1 ≤ s) (h2 : s ≤ 64) (h3 : 0 ≤ a) (h4 : a + s ≤ 64) (hn : mostI s < n) :
    Calls Try.prog 3 #[.agg #[.int .i64 a, .int .i64 s], .int .u64 x, .int .u64 n] w fun e w' => e = .returned (.bool true) ∧ Below w.heap.size w w' := by
  have c0 : (w.alloc (Obj.cells #[.int .i64 a, .int .i64 s] 23)).cell? ⟨w.heap.size, 0, none⟩ = some (.int .i64 a) := by simp
  have c1 : (w.alloc (Obj.cells #[.int .i64 a, .int .i64 s] 23)).cell? ⟨w.heap.size, 1, none⟩ = some (.int .i64 s) := by simp
  have hB : Below (w.heap.size + 1) (w.alloc (Obj.cells #[.int .i64 a, .int .i64 s] 23)) (w.alloc (Obj.cells #[.int .i64 a, .int .i64 s] 23)) := Below.refl _ _
  go_enter Try.func3, Try.ntmps3
  go_wp2_with (first | (go_at_call 6; refine (to_any _ _ _).mono ?_; rintro e w2 ⟨rfl, hb⟩; replace c0 := kcell hb c0; replace c1 := kcell hb c1; replace hB := bstep hB (by simp) hb; clear hb) | (go_at_call 7; refine (put_big _ _ _ _ _ h1 h2 h3 h4 hn).mono ?_; rintro e w2 ⟨rfl, hb⟩; replace c0 := kcell hb c0; replace c1 := kcell hb c1; replace hB := bstep hB (by simp) hb; clear hb) | (go_at_call 8; refine (refPut_big _ _ _ _ _ h1 h2 h3 h4 hn).mono ?_; rintro e w2 ⟨rfl, hb⟩; replace c0 := kcell hb c0; replace c1 := kcell hb c1; replace hB := bstep hB (by simp) hb; clear hb) | (go_at_call 10; refine (awake_any _).mono ?_; rintro e w2 ⟨rfl, hb⟩; replace c0 := kcell hb c0; replace c1 := kcell hb c1; replace hB := bstep hB (by simp) hb; clear hb))
  go_ret
  exact ⟨rfl, (below1 _ _).trans (hB.mono (by simp))⟩

theorem get_put_at (a s x n : Int) (w : World) (h1 : 1 ≤ s) (h2 : s ≤ 64) (h3 : 0 ≤ a) (h4 : a + s ≤ 64) (x0 : 0 ≤ x) (x1 : x < 18446744073709551616) (n0 : 0 ≤ n) (hn : n ≤ mostI s) :
    Calls Try.prog 9 #[.agg #[.int .i64 a, .int .i64 s], .int .u64 (Fld.putN a.toNat s.toNat x.toNat n.toNat : Nat)] w fun e w' => e = .returned (.int .u64 n) ∧ Below w.heap.size w w' := by
  have hN : n.toNat < 2 ^ s.toNat := by
    unfold mostI at hn
    have : ((2 : Int) ^ s.toNat) = ((2 ^ s.toNat : Nat) : Int) := by simp
    omega
  have hl := Fld.put_lt a.toNat s.toNat x.toNat n.toNat 64 hN (by omega) (by omega)
  have h := get_yes a s (Fld.putN a.toNat s.toNat x.toNat n.toNat : Nat) w h1 h2 h3 h4 (by omega) (by omega)
  rw [Int.toNat_natCast, Fld.get_put _ _ _ _ hN, Int.toNat_of_nonneg n0] at h
  exact h

set_option maxHeartbeats 400000 in
theorem fieldPuts_yes (a s x n : Int) (w : World) (h1 : 1 ≤ s) (h2 : s ≤ 64) (h3 : 0 ≤ a) (h4 : a + s ≤ 64) (x0 : 0 ≤ x) (x1 : x < 18446744073709551616) (n0 : 0 ≤ n) (hn : n ≤ mostI s) :
    Calls Try.prog 3 #[.agg #[.int .i64 a, .int .i64 s], .int .u64 x, .int .u64 n] w fun e w' => e = .returned (.bool true) ∧ Below w.heap.size w w' := by
  have c0 : (w.alloc (Obj.cells #[.int .i64 a, .int .i64 s] 23)).cell? ⟨w.heap.size, 0, none⟩ = some (.int .i64 a) := by simp
  have c1 : (w.alloc (Obj.cells #[.int .i64 a, .int .i64 s] 23)).cell? ⟨w.heap.size, 1, none⟩ = some (.int .i64 s) := by simp
  have hB : Below (w.heap.size + 1) (w.alloc (Obj.cells #[.int .i64 a, .int .i64 s] 23)) (w.alloc (Obj.cells #[.int .i64 a, .int .i64 s] 23)) := Below.refl _ _
  obtain ⟨p, hput, href, hget⟩ : ∃ p : Int, Shut (∀ w : World, Calls Try.prog 7 #[.agg #[.int .i64 a, .int .i64 s], .int .u64 x, .int .u64 n] w fun e w' => e = .returned (.tuple #[.int .u64 p, .int .i64 0]) ∧ Below w.heap.size w w') ∧
      Shut (∀ w : World, Calls Try.prog 8 #[.agg #[.int .i64 a, .int .i64 s], .int .u64 x, .int .u64 n] w fun e w' => e = .returned (.tuple #[.int .u64 p, .bool true]) ∧ Below w.heap.size w w') ∧
      Shut (∀ w : World, Calls Try.prog 9 #[.agg #[.int .i64 a, .int .i64 s], .int .u64 p] w fun e w' => e = .returned (.int .u64 n) ∧ Below w.heap.size w w') := by
    refine ⟨_, fun _ => put_yes _ _ _ _ _ h1 h2 h3 h4 x0 x1 n0 hn, fun _ => refPut_yes _ _ _ _ _ h1 h2 h3 h4 x0 x1 n0 hn, fun _ => ?_⟩
    exact get_put_at a s x n _ h1 h2 h3 h4 x0 x1 n0 hn
  go_enter Try.func3, Try.ntmps3
  go_wp2_with (first | (go_at_call 6; refine (to_any _ _ _).mono ?_; rintro e w2 ⟨rfl, hb⟩; replace c0 := kcell hb c0; replace c1 := kcell hb c1; replace hB := bstep hB (by simp) hb; clear hb) | (go_at_call 7; refine (hput.out _).mono ?_; rintro e w2 ⟨rfl, hb⟩; replace c0 := kcell hb c0; replace c1 := kcell hb c1; replace hB := bstep hB (by simp) hb; clear hb) | (go_at_call 8; refine (href.out _).mono ?_; rintro e w2 ⟨rfl, hb⟩; replace c0 := kcell hb c0; replace c1 := kcell hb c1; replace hB := bstep hB (by simp) hb; clear hb) | (go_at_call 9; refine (hget.out _).mono ?_; rintro e w2 ⟨rfl, hb⟩; replace c0 := kcell hb c0; replace c1 := kcell hb c1; replace hB := bstep hB (by simp) hb; clear hb) | (go_at_call 10; refine (awake_any _).mono ?_; rintro e w2 ⟨rfl, hb⟩; replace c0 := kcell hb c0; replace c1 := kcell hb c1; replace hB := bstep hB (by simp) hb; clear hb))
  go_ret
  exact ⟨rfl, (below1 _ _).trans (hB.mono (by simp))⟩

end Go.Proofs.Ytcenphlgclmjnaa
