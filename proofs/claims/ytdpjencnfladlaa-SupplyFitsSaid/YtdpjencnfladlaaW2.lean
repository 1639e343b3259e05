/- Walks over package supply: how long to wait, the least budget; and the statements SupplyGrows, SupplyWaits, SupplyLeast. -/
import Derived.Test.YtdpjencnfladlaaW1
namespace Go.Proofs.Ytdpjencnfladlaa
open Go.RowKit

/-! Plain numbers. -/
theorem up_lt (k a b : Int) (_ha : 0 ≤ a) (hb : 1 ≤ b) (h : k < upI a b) : b * k < a := by
  unfold upI at h
  have h2 := (Int.le_ediv_iff_mul_le (show 0 < b by omega)).1 (show k + 1 ≤ (a + b - 1) / b by omega)
  rw [Int.add_mul, Int.mul_comm k b] at h2
  omega
theorem up_ge (a b : Int) (_ha : 0 ≤ a) (hb : 1 ≤ b) : a ≤ b * upI a b := by
  unfold upI
  have h2 := Int.lt_ediv_add_one_mul_self (a + b - 1) (show 0 < b by omega)
  rw [Int.add_mul, Int.mul_comm _ b] at h2
  omega
theorem up_pos (a b : Int) (ha : 1 ≤ a) (hb : 1 ≤ b) : 1 ≤ upI a b := by
  unfold upI
  exact (Int.le_ediv_iff_mul_le (show 0 < b by omega)).2 (by omega)
theorem least_far (b p need : Int) (h1 : 1 ≤ b) (h2 : b ≤ p) (h3 : p ≤ 1048576) (hn : 1 ≤ need) (hf : 1048576 ≤ upI need b ∨ 1048576 < (upI need b + 1) * p) : leastI b p 1048576 < need := by
  unfold leastI
  have hp : 0 < p := by omega
  have hk : 1048576 / p - 1 < upI need b := by
    rcases hf with hf | hf
    · have := Int.ediv_le_self (a := 1048576) p (by omega)
      omega
    · have := Int.ediv_lt_of_lt_mul hp hf
      omega
  have := up_lt _ need b (by omega) h1 hk
  omega
theorem least_at (b p need : Int) (h1 : 1 ≤ b) (h2 : b ≤ p) (hn : 1 ≤ need) : need ≤ leastI b p ((upI need b + 1) * p) := by
  unfold leastI
  rw [Int.mul_ediv_cancel _ (by omega)]
  have := up_ge need b (by omega) h1
  rw [show upI need b + 1 - 1 = upI need b by omega]
  omega
theorem least_before (b p need : Int) (h1 : 1 ≤ b) (h2 : b ≤ p) (hn : 1 ≤ need) : leastI b p ((upI need b + 1) * p - 1) < need := by
  unfold leastI
  have hp : 0 < p := by omega
  have hk : ((upI need b + 1) * p - 1) / p < upI need b + 1 := Int.ediv_lt_of_lt_mul hp (by omega)
  have := up_lt (((upI need b + 1) * p - 1) / p - 1) need b (by omega) h1 (by omega)
  omega

/-! Wait. -/
set_option maxHeartbeats 400000 in
theorem wait_no (b p need : Int) (w : World) (h : resB b p = false ∨ (resB b p = true ∧ need < 0)) :
    Calls Try.prog 12 #[.agg #[.int .i64 b, .int .i64 p], .int .i64 need] w fun e w' => e = .returned (.tuple #[.int .i64 0, .bool false]) ∧ Below w.heap.size w w' := by
  have hB : Below w.heap.size w (w.alloc (Obj.cells #[.int .i64 b, .int .i64 p] 25)) := below1 _ _
  rcases h with h | ⟨h, h2⟩
  all_goals
    go_enter Try.func12, Try.ntmps12
    go_wp2_with ((go_at_call 16; refine (right_any _ _ _).mono ?_; rintro e w2 ⟨rfl, hb⟩; replace hB := bstep hB (Nat.le_refl _) hb; clear hb))
    go_ret2
    exact ⟨rfl, hB⟩

set_option maxHeartbeats 400000 in
theorem wait_zero (b p : Int) (w : World) (h : resB b p = true) :
    Calls Try.prog 12 #[.agg #[.int .i64 b, .int .i64 p], .int .i64 0] w fun e w' => e = .returned (.tuple #[.int .i64 0, .bool true]) ∧ Below w.heap.size w w' := by
  have hB : Below w.heap.size w (w.alloc (Obj.cells #[.int .i64 b, .int .i64 p] 25)) := below1 _ _
  go_enter Try.func12, Try.ntmps12
  go_wp2_with ((go_at_call 16; refine (right_any _ _ _).mono ?_; rintro e w2 ⟨rfl, hb⟩; replace hB := bstep hB (Nat.le_refl _) hb; clear hb))
  go_ret2
  exact ⟨rfl, hB⟩

set_option maxHeartbeats 400000 in
theorem wait_at (b p need u : Int) (w : World) (h1 : 1 ≤ b) (h2 : b ≤ p) (h3 : p ≤ 1048576) (hn : 1 ≤ need) (hu : Shut (∀ w : World, Calls Try.prog 23 #[.int .i64 need, .int .i64 b] w fun e w' => e = .returned (.int .i64 u) ∧ w = w')) (hu0 : 1 ≤ u) :
    Calls Try.prog 12 #[.agg #[.int .i64 b, .int .i64 p], .int .i64 need] w fun e w' => (e = .returned (.tuple (if 1048576 ≤ u ∨ 1048576 < (u + 1) * p then #[.int .i64 0, .bool false] else #[.int .i64 ((u + 1) * p), .bool true]))) ∧ Below w.heap.size w w' := by
  have h := resB_t ⟨h1, h2, h3⟩
  have hB : Below w.heap.size w (w.alloc (Obj.cells #[.int .i64 b, .int .i64 p] 25)) := below1 _ _
  have c0 : (w.alloc (Obj.cells #[.int .i64 b, .int .i64 p] 25)).cell? ⟨w.heap.size, 0, none⟩ = some (.int .i64 b) := by simp
  have c1 : (w.alloc (Obj.cells #[.int .i64 b, .int .i64 p] 25)).cell? ⟨w.heap.size, 1, none⟩ = some (.int .i64 p) := by simp
  by_cases f1 : 1048576 ≤ u
  · rw [if_pos (.inl f1)]
    go_enter Try.func12, Try.ntmps12
    go_wp2_with (first | (go_at_call 16; refine (right_any _ _ _).mono ?_; rintro e w2 ⟨rfl, hb⟩; replace c0 := kcell hb c0; replace c1 := kcell hb c1; replace hB := bstep hB (Nat.le_refl _) hb; clear hb) | (go_at_call 23; refine (hu.out _).mono ?_; rintro e w2 ⟨rfl, rfl⟩))
    go_ret2
    exact ⟨rfl, hB⟩
  · have hm := mul_bd p (u + 1) (by omega) (by omega) (by omega) (by omega)
    rw [Int.mul_comm p] at hm
    by_cases f2 : 1048576 < (u + 1) * p
    · rw [if_pos (.inr f2)]
      go_enter Try.func12, Try.ntmps12
      go_wp2_with (first | (go_at_call 16; refine (right_any _ _ _).mono ?_; rintro e w2 ⟨rfl, hb⟩; replace c0 := kcell hb c0; replace c1 := kcell hb c1; replace hB := bstep hB (Nat.le_refl _) hb; clear hb) | (go_at_call 23; refine (hu.out _).mono ?_; rintro e w2 ⟨rfl, rfl⟩))
      go_ret2
      exact ⟨rfl, hB⟩
    · rw [if_neg (by omega)]
      go_enter Try.func12, Try.ntmps12
      go_wp2_with (first | (go_at_call 16; refine (right_any _ _ _).mono ?_; rintro e w2 ⟨rfl, hb⟩; replace c0 := kcell hb c0; replace c1 := kcell hb c1; replace hB := bstep hB (Nat.le_refl _) hb; clear hb) | (go_at_call 23; refine (hu.out _).mono ?_; rintro e w2 ⟨rfl, rfl⟩))
      go_ret2
      exact ⟨rfl, hB⟩

set_option maxHeartbeats 400000 in
theorem to_any (b p : Int) (w : World) :
    Calls Try.prog 8 #[.agg #[.int .i64 b, .int .i64 p]] w fun e w' => e = .returned (.agg #[.int .i64 b, .int .i64 p]) ∧ Below w.heap.size w w' := by
  go_enter Try.func8, Try.ntmps8
  go_wp2
  exact bodyPost_ret (v := .agg #[.int .i64 b, .int .i64 p]) (by simp [results, Try.results8, go_sem]) rfl ⟨rfl, (below1 _ _).alloc (by simp) _⟩

set_option maxHeartbeats 400000 in
theorem awake_any (w : World) :
    Calls Try.prog 11 #[] w fun e w' => e = .returned (.bool true) ∧ Below w.heap.size w w' := by
  have g1 : leastI 2 5 14 = 2 := by decide
  have g2 : mostI 2 5 14 = 8 := by decide
  have hB : Below w.heap.size w (w.alloc (Obj.cells #[.int .i64 2, .int .i64 5] 25)) := below1 _ _
  have c0 : (w.alloc (Obj.cells #[.int .i64 2, .int .i64 5] 25)).cell? ⟨w.heap.size, 0, none⟩ = some (.int .i64 2) := by simp
  have c1 : (w.alloc (Obj.cells #[.int .i64 2, .int .i64 5] 25)).cell? ⟨w.heap.size, 1, none⟩ = some (.int .i64 5) := by simp
  go_enter Try.func11, Try.ntmps11
  go_wp2_with (first | (go_at_call 9; refine (least_yes 2 5 14 _ (by decide) (by decide) (by decide) (by decide) (by decide)).mono ?_; rintro e w2 ⟨rfl, hb⟩; replace c0 := kcell hb c0; replace c1 := kcell hb c1; replace hB := bstep hB (Nat.le_refl _) hb; clear hb) | (go_at_call 10; refine (most_yes 2 5 14 _ (by decide) (by decide) (by decide) (by decide) (by decide)).mono ?_; rintro e w2 ⟨rfl, hb⟩; replace c0 := kcell hb c0; replace c1 := kcell hb c1; replace hB := bstep hB (Nat.le_refl _) hb; clear hb))
  go_ret
  exact ⟨rfl, hB⟩

/-! SupplyWaits. -/
set_option maxHeartbeats 1000000 in
theorem waits_no (b p need : Int) (w : World) (h : resB b p = false ∨ (resB b p = true ∧ need < 0)) :
    Calls Try.prog 4 #[.agg #[.int .i64 b, .int .i64 p], .int .i64 need] w fun e w' => e = .returned (.bool true) ∧ Below w.heap.size w w' := by
  have hB : Below w.heap.size w (w.alloc (Obj.cells #[.int .i64 b, .int .i64 p] 23)) := below1 _ _
  have c0 : (w.alloc (Obj.cells #[.int .i64 b, .int .i64 p] 23)).cell? ⟨w.heap.size, 0, none⟩ = some (.int .i64 b) := by simp
  have c1 : (w.alloc (Obj.cells #[.int .i64 b, .int .i64 p] 23)).cell? ⟨w.heap.size, 1, none⟩ = some (.int .i64 p) := by simp
  have HH := Lib.hid h
  rcases h with h | ⟨h, h2⟩
  all_goals
    go_enter Try.func4, Try.ntmps4
    go_wp2_with (first | (go_at_call 8; refine (to_any _ _ _).mono ?_; rintro e w2 ⟨rfl, hb⟩; replace c0 := kcell hb c0; replace c1 := kcell hb c1; replace hB := bstep hB (Nat.le_refl _) hb; clear hb) | (go_at_call 12; refine (wait_no _ _ _ _ HH.out).mono ?_; rintro e w2 ⟨rfl, hb⟩; replace c0 := kcell hb c0; replace c1 := kcell hb c1; replace hB := bstep hB (Nat.le_refl _) hb; clear hb) | (go_at_call 13; refine (refRight_any _ _ _).mono ?_; rintro e w2 ⟨rfl, hb⟩; replace c0 := kcell hb c0; replace c1 := kcell hb c1; replace hB := bstep hB (Nat.le_refl _) hb; clear hb) | (go_at_call 11; refine (awake_any _).mono ?_; rintro e w2 ⟨rfl, hb⟩; replace c0 := kcell hb c0; replace c1 := kcell hb c1; replace hB := bstep hB (Nat.le_refl _) hb; clear hb))
    go_ret
    exact ⟨rfl, hB⟩

set_option maxHeartbeats 1000000 in
theorem waits_far (b p need l : Int) (w : World) (h1 : 1 ≤ b) (h2 : b ≤ p) (h3 : p ≤ 1048576) (hn : 1 ≤ need)
    (hw : Shut (∀ w : World, Calls Try.prog 12 #[.agg #[.int .i64 b, .int .i64 p], .int .i64 need] w fun e w' => e = .returned (.tuple #[.int .i64 0, .bool false]) ∧ Below w.heap.size w w'))
    (hl : Shut (∀ w : World, Calls Try.prog 14 #[.agg #[.int .i64 b, .int .i64 p], .int .i64 1048576] w fun e w' => e = .returned (.int .i64 l) ∧ Below w.heap.size w w')) (hlt : l < need) :
    Calls Try.prog 4 #[.agg #[.int .i64 b, .int .i64 p], .int .i64 need] w fun e w' => e = .returned (.bool true) ∧ Below w.heap.size w w' := by
  have h := resB_t ⟨h1, h2, h3⟩
  have hB : Below w.heap.size w (w.alloc (Obj.cells #[.int .i64 b, .int .i64 p] 23)) := below1 _ _
  have c0 : (w.alloc (Obj.cells #[.int .i64 b, .int .i64 p] 23)).cell? ⟨w.heap.size, 0, none⟩ = some (.int .i64 b) := by simp
  have c1 : (w.alloc (Obj.cells #[.int .i64 b, .int .i64 p] 23)).cell? ⟨w.heap.size, 1, none⟩ = some (.int .i64 p) := by simp
  go_enter Try.func4, Try.ntmps4
  go_wp2_with (first | (go_at_call 8; refine (to_any _ _ _).mono ?_; rintro e w2 ⟨rfl, hb⟩; replace c0 := kcell hb c0; replace c1 := kcell hb c1; replace hB := bstep hB (Nat.le_refl _) hb; clear hb) | (go_at_call 12; refine (hw.out _).mono ?_; rintro e w2 ⟨rfl, hb⟩; replace c0 := kcell hb c0; replace c1 := kcell hb c1; replace hB := bstep hB (Nat.le_refl _) hb; clear hb) | (go_at_call 13; refine (refRight_any _ _ _).mono ?_; rintro e w2 ⟨rfl, hb⟩; replace c0 := kcell hb c0; replace c1 := kcell hb c1; replace hB := bstep hB (Nat.le_refl _) hb; clear hb) | (go_at_call 14; refine (hl.out _).mono ?_; rintro e w2 ⟨rfl, hb⟩; replace c0 := kcell hb c0; replace c1 := kcell hb c1; replace hB := bstep hB (Nat.le_refl _) hb; clear hb) | (go_at_call 11; refine (awake_any _).mono ?_; rintro e w2 ⟨rfl, hb⟩; replace c0 := kcell hb c0; replace c1 := kcell hb c1; replace hB := bstep hB (Nat.le_refl _) hb; clear hb))
  go_ret
  exact ⟨rfl, hB⟩

set_option maxHeartbeats 1000000 in
theorem waits_zero (b p : Int) (w : World) (h1 : 1 ≤ b) (h2 : b ≤ p) (h3 : p ≤ 1048576) :
    Calls Try.prog 4 #[.agg #[.int .i64 b, .int .i64 p], .int .i64 0] w fun e w' => e = .returned (.bool true) ∧ Below w.heap.size w w' := by
  have h := resB_t ⟨h1, h2, h3⟩
  have g : 0 ≤ leastI b p 0 := by unfold leastI; omega
  have hB : Below w.heap.size w (w.alloc (Obj.cells #[.int .i64 b, .int .i64 p] 23)) := below1 _ _
  have c0 : (w.alloc (Obj.cells #[.int .i64 b, .int .i64 p] 23)).cell? ⟨w.heap.size, 0, none⟩ = some (.int .i64 b) := by simp
  have c1 : (w.alloc (Obj.cells #[.int .i64 b, .int .i64 p] 23)).cell? ⟨w.heap.size, 1, none⟩ = some (.int .i64 p) := by simp
  go_enter Try.func4, Try.ntmps4
  go_wp2_with (first | (go_at_call 8; refine (to_any _ _ _).mono ?_; rintro e w2 ⟨rfl, hb⟩; replace c0 := kcell hb c0; replace c1 := kcell hb c1; replace hB := bstep hB (Nat.le_refl _) hb; clear hb) | (go_at_call 12; refine (wait_zero _ _ _ h).mono ?_; rintro e w2 ⟨rfl, hb⟩; replace c0 := kcell hb c0; replace c1 := kcell hb c1; replace hB := bstep hB (Nat.le_refl _) hb; clear hb) | (go_at_call 13; refine (refRight_any _ _ _).mono ?_; rintro e w2 ⟨rfl, hb⟩; replace c0 := kcell hb c0; replace c1 := kcell hb c1; replace hB := bstep hB (Nat.le_refl _) hb; clear hb) | (go_at_call 14; refine (refLeast_any _ _ _ _ h1 h2 h3 (by omega) (by omega)).mono ?_; rintro e w2 ⟨rfl, hb⟩; replace c0 := kcell hb c0; replace c1 := kcell hb c1; replace hB := bstep hB (Nat.le_refl _) hb; clear hb) | (go_at_call 11; refine (awake_any _).mono ?_; rintro e w2 ⟨rfl, hb⟩; replace c0 := kcell hb c0; replace c1 := kcell hb c1; replace hB := bstep hB (Nat.le_refl _) hb; clear hb))
  go_ret
  exact ⟨rfl, hB⟩

set_option maxHeartbeats 1000000 in
theorem waits_yes (b p need n l m : Int) (w : World) (h1 : 1 ≤ b) (h2 : b ≤ p) (h3 : p ≤ 1048576) (hn : 1 ≤ need) (n0 : 1 ≤ n) (n1 : n ≤ 1048576)
    (hw : Shut (∀ w : World, Calls Try.prog 12 #[.agg #[.int .i64 b, .int .i64 p], .int .i64 need] w fun e w' => e = .returned (.tuple #[.int .i64 n, .bool true]) ∧ Below w.heap.size w w'))
    (hl : Shut (∀ w : World, Calls Try.prog 14 #[.agg #[.int .i64 b, .int .i64 p], .int .i64 n] w fun e w' => e = .returned (.int .i64 l) ∧ Below w.heap.size w w')) (hlt : need ≤ l)
    (hm : Shut (∀ w : World, Calls Try.prog 14 #[.agg #[.int .i64 b, .int .i64 p], .int .i64 (n - 1)] w fun e w' => e = .returned (.int .i64 m) ∧ Below w.heap.size w w')) (hmt : m < need) :
    Calls Try.prog 4 #[.agg #[.int .i64 b, .int .i64 p], .int .i64 need] w fun e w' => e = .returned (.bool true) ∧ Below w.heap.size w w' := by
  have h := resB_t ⟨h1, h2, h3⟩
  have hB : Below w.heap.size w (w.alloc (Obj.cells #[.int .i64 b, .int .i64 p] 23)) := below1 _ _
  have c0 : (w.alloc (Obj.cells #[.int .i64 b, .int .i64 p] 23)).cell? ⟨w.heap.size, 0, none⟩ = some (.int .i64 b) := by simp
  have c1 : (w.alloc (Obj.cells #[.int .i64 b, .int .i64 p] 23)).cell? ⟨w.heap.size, 1, none⟩ = some (.int .i64 p) := by simp
  go_enter Try.func4, Try.ntmps4
  go_wp2_with (first | (go_at_call 8; refine (to_any _ _ _).mono ?_; rintro e w2 ⟨rfl, hb⟩; replace c0 := kcell hb c0; replace c1 := kcell hb c1; replace hB := bstep hB (Nat.le_refl _) hb; clear hb) | (go_at_call 12; refine (hw.out _).mono ?_; rintro e w2 ⟨rfl, hb⟩; replace c0 := kcell hb c0; replace c1 := kcell hb c1; replace hB := bstep hB (Nat.le_refl _) hb; clear hb) | (go_at_call 13; refine (refRight_any _ _ _).mono ?_; rintro e w2 ⟨rfl, hb⟩; replace c0 := kcell hb c0; replace c1 := kcell hb c1; replace hB := bstep hB (Nat.le_refl _) hb; clear hb) | (go_at_call_of 14 (Value.int IntKind.i64 n); refine (hl.out _).mono ?_; rintro e w2 ⟨rfl, hb⟩; replace c0 := kcell hb c0; replace c1 := kcell hb c1; replace hB := bstep hB (Nat.le_refl _) hb; clear hb) | (go_at_call 14; refine (hm.out _).mono ?_; rintro e w2 ⟨rfl, hb⟩; replace c0 := kcell hb c0; replace c1 := kcell hb c1; replace hB := bstep hB (Nat.le_refl _) hb; clear hb) | (go_at_call 11; refine (awake_any _).mono ?_; rintro e w2 ⟨rfl, hb⟩; replace c0 := kcell hb c0; replace c1 := kcell hb c1; replace hB := bstep hB (Nat.le_refl _) hb; clear hb))
  go_ret
  exact ⟨rfl, hB⟩

theorem supplyWaits_all (b p need : Int) (w : World) (hmax : need < 9223372036854775808) :
    Calls Try.prog 4 #[.agg #[.int .i64 b, .int .i64 p], .int .i64 need] w fun e w' => e = .returned (.bool true) ∧ Below w.heap.size w w' := by
  by_cases h : 1 ≤ b ∧ b ≤ p ∧ p ≤ 1048576
  · obtain ⟨h1, h2, h3⟩ := h
    by_cases hn : need < 0
    · exact waits_no b p need w (.inr ⟨resB_t ⟨h1, h2, h3⟩, hn⟩)
    · by_cases hz : need = 0
      · subst hz; exact waits_zero b p w h1 h2 h3
      · have hup : Shut (∀ w : World, Calls Try.prog 23 #[.int .i64 need, .int .i64 b] w fun e w' => e = .returned (.int .i64 (upI need b)) ∧ w = w') := fun w => byUp_any need b w (by omega) (by omega) h1
        have hu := up_pos need b (by omega) h1
        have hw := fun w => wait_at b p need (upI need b) w h1 h2 h3 (by omega) hup hu
        by_cases hf : 1048576 ≤ upI need b ∨ 1048576 < (upI need b + 1) * p
        · simp only [if_pos hf] at hw
          exact waits_far b p need _ w h1 h2 h3 (by omega) hw (fun w => refLeast_any b p 1048576 w h1 h2 h3 (by omega) (by omega)) (least_far b p need h1 h2 h3 (by omega) hf)
        · simp only [if_neg hf] at hw
          have hp : 1 * p ≤ (upI need b + 1) * p := Int.mul_le_mul_of_nonneg_right (by omega) (by omega)
          exact waits_yes b p need _ _ _ w h1 h2 h3 (by omega) (by omega) (by omega) hw (fun w => refLeast_any b p _ w h1 h2 h3 (by omega) (by omega)) (least_at b p need h1 h2 (by omega))
            (fun w => refLeast_any b p _ w h1 h2 h3 (by omega) (by omega)) (least_before b p need h1 h2 (by omega))
  · exact waits_no b p need w (.inl (resB_f h))
end Go.Proofs.Ytdpjencnfladlaa
