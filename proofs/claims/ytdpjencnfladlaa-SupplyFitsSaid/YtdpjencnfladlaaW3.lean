/- Walks over package supply: the least budget; and the statements SupplyLeast and SupplyGrows. -/
import Derived.Test.YtdpjencnfladlaaW2
namespace Go.Proofs.Ytdpjencnfladlaa
open Go.RowKit

def argB (p need t : Int) : Prop := 1 ≤ p ∧ p ≤ 1048576 ∧ 0 ≤ need ∧ 0 ≤ t ∧ t ≤ 1048576

set_option maxHeartbeats 400000 in
theorem small_no (p need t : Int) (w : World) (h : ¬ (1 ≤ p ∧ p ≤ 1048576 ∧ 0 ≤ need ∧ 0 ≤ t ∧ t ≤ 1048576)) :
    Calls Try.prog 15 #[.int .i64 p, .int .i64 need, .int .i64 t] w fun e w' => e = .returned (.tuple #[.int .i64 0, .bool false]) ∧ w = w' := by
  by_cases h1 : 1 ≤ p
  · by_cases h2 : p ≤ 1048576
    · by_cases h3 : 0 ≤ need
      · have hs : strB t = false := strB_f (fun hh => h ⟨h1, h2, h3, hh⟩)
        clear h
        go_enter Try.func15, Try.ntmps15
        go_wp2_with ((go_at_call 22; refine (stretch_any _ _).mono ?_; rintro e w2 ⟨rfl, rfl⟩))
        go_ret2
        exact ⟨rfl, rfl⟩
      · clear h
        go_enter Try.func15, Try.ntmps15
        go_wp2_with ((go_at_call 22; refine (stretch_any _ _).mono ?_; rintro e w2 ⟨rfl, rfl⟩))
        go_ret2
        exact ⟨rfl, rfl⟩
    · clear h
      go_enter Try.func15, Try.ntmps15
      go_wp2_with ((go_at_call 22; refine (stretch_any _ _).mono ?_; rintro e w2 ⟨rfl, rfl⟩))
      go_ret2
      exact ⟨rfl, rfl⟩
  · clear h
    go_enter Try.func15, Try.ntmps15
    go_wp2_with ((go_at_call 22; refine (stretch_any _ _).mono ?_; rintro e w2 ⟨rfl, rfl⟩))
    go_ret2
    exact ⟨rfl, rfl⟩

set_option maxHeartbeats 400000 in
theorem small_zero (p t : Int) (w : World) (h1 : 1 ≤ p) (h2 : p ≤ 1048576) (hs : strB t = true) :
    Calls Try.prog 15 #[.int .i64 p, .int .i64 0, .int .i64 t] w fun e w' => e = .returned (.tuple #[.int .i64 1, .bool true]) ∧ w = w' := by
  go_enter Try.func15, Try.ntmps15
  go_wp2_with ((go_at_call 22; refine (stretch_any _ _).mono ?_; rintro e w2 ⟨rfl, rfl⟩))
  go_ret2
  exact ⟨rfl, rfl⟩

set_option maxHeartbeats 400000 in
theorem small_few (p need t : Int) (w : World) (h1 : 1 ≤ p) (h2 : p ≤ 1048576) (hn : 1 ≤ need) (h3 : 0 ≤ t) (h4 : t ≤ 1048576) (hq : t / p - 1 < 1) :
    Calls Try.prog 15 #[.int .i64 p, .int .i64 need, .int .i64 t] w fun e w' => e = .returned (.tuple #[.int .i64 0, .bool false]) ∧ w = w' := by
  have hs := strB_t ⟨h3, h4⟩
  have hd := div_le_self t p h3 h1
  go_enter Try.func15, Try.ntmps15
  go_wp2_with ((go_at_call 22; refine (stretch_any _ _).mono ?_; rintro e w2 ⟨rfl, rfl⟩))
  go_ret2
  exact ⟨rfl, rfl⟩

set_option maxHeartbeats 400000 in
theorem small_at (p need t u : Int) (w : World) (h1 : 1 ≤ p) (h2 : p ≤ 1048576) (hn : 1 ≤ need) (h3 : 0 ≤ t) (h4 : t ≤ 1048576) (hq : 1 ≤ t / p - 1)
    (hu : Shut (∀ w : World, Calls Try.prog 23 #[.int .i64 need, .int .i64 (t / p - 1)] w fun e w' => e = .returned (.int .i64 u) ∧ w = w')) :
    Calls Try.prog 15 #[.int .i64 p, .int .i64 need, .int .i64 t] w fun e w' => (e = .returned (.tuple (if p < u then #[.int .i64 0, .bool false] else #[.int .i64 u, .bool true]))) ∧ w = w' := by
  have hs := strB_t ⟨h3, h4⟩
  have hd := div_le_self t p h3 h1
  by_cases hf : p < u
  · rw [if_pos hf]
    go_enter Try.func15, Try.ntmps15
    go_wp2_with (first | (go_at_call 22; refine (stretch_any _ _).mono ?_; rintro e w2 ⟨rfl, rfl⟩) | (go_at_call 23; refine (hu.out _).mono ?_; rintro e w2 ⟨rfl, rfl⟩))
    go_ret2
    exact ⟨rfl, rfl⟩
  · rw [if_neg hf]
    go_enter Try.func15, Try.ntmps15
    go_wp2_with (first | (go_at_call 22; refine (stretch_any _ _).mono ?_; rintro e w2 ⟨rfl, rfl⟩) | (go_at_call 23; refine (hu.out _).mono ?_; rintro e w2 ⟨rfl, rfl⟩))
    go_ret2
    exact ⟨rfl, rfl⟩

/-! SupplyLeast. -/
set_option maxHeartbeats 1000000 in
theorem sleast_no (p need t : Int) (w : World) (h : ¬ (1 ≤ p ∧ p ≤ 1048576 ∧ 0 ≤ need ∧ 0 ≤ t ∧ t ≤ 1048576)) :
    Calls Try.prog 5 #[.int .i64 p, .int .i64 need, .int .i64 t] w fun e w' => e = .returned (.bool true) ∧ Below w.heap.size w w' := by
  have HH := Lib.hid (fun w => small_no p need t w h)
  by_cases h1 : 1 ≤ p
  · by_cases h2 : p ≤ 1048576
    · by_cases h3 : 0 ≤ need
      · by_cases h4 : 0 ≤ t
        · have h5 : 1048576 < t := by omega
          clear h
          go_enter Try.func5, Try.ntmps5
          go_wp2_with (first | (go_at_call 15; refine (HH.out _).mono ?_; rintro e w2 ⟨rfl, rfl⟩) | (go_at_call 11; refine (awake_any _).mono ?_; rintro e w2 ⟨rfl, hb⟩))
          go_ret
          exact ⟨rfl, hb⟩
        · clear h
          go_enter Try.func5, Try.ntmps5
          go_wp2_with (first | (go_at_call 15; refine (HH.out _).mono ?_; rintro e w2 ⟨rfl, rfl⟩) | (go_at_call 11; refine (awake_any _).mono ?_; rintro e w2 ⟨rfl, hb⟩))
          go_ret
          exact ⟨rfl, hb⟩
      · clear h
        go_enter Try.func5, Try.ntmps5
        go_wp2_with (first | (go_at_call 15; refine (HH.out _).mono ?_; rintro e w2 ⟨rfl, rfl⟩) | (go_at_call 11; refine (awake_any _).mono ?_; rintro e w2 ⟨rfl, hb⟩))
        go_ret
        exact ⟨rfl, hb⟩
    · clear h
      go_enter Try.func5, Try.ntmps5
      go_wp2_with (first | (go_at_call 15; refine (HH.out _).mono ?_; rintro e w2 ⟨rfl, rfl⟩) | (go_at_call 11; refine (awake_any _).mono ?_; rintro e w2 ⟨rfl, hb⟩))
      go_ret
      exact ⟨rfl, hb⟩
  · clear h
    go_enter Try.func5, Try.ntmps5
    go_wp2_with (first | (go_at_call 15; refine (HH.out _).mono ?_; rintro e w2 ⟨rfl, rfl⟩) | (go_at_call 11; refine (awake_any _).mono ?_; rintro e w2 ⟨rfl, hb⟩))
    go_ret
    exact ⟨rfl, hb⟩

set_option maxHeartbeats 1000000 in
theorem sleast_none (p need t l : Int) (w : World) (h1 : 1 ≤ p) (h2 : p ≤ 1048576) (hn : 1 ≤ need) (h3 : 0 ≤ t) (h4 : t ≤ 1048576)
    (hs : Shut (∀ w : World, Calls Try.prog 15 #[.int .i64 p, .int .i64 need, .int .i64 t] w fun e w' => e = .returned (.tuple #[.int .i64 0, .bool false]) ∧ w = w'))
    (hl : Shut (∀ w : World, Calls Try.prog 14 #[.agg #[.int .i64 p, .int .i64 p], .int .i64 t] w fun e w' => e = .returned (.int .i64 l) ∧ Below w.heap.size w w')) (hlt : l < need) :
    Calls Try.prog 5 #[.int .i64 p, .int .i64 need, .int .i64 t] w fun e w' => e = .returned (.bool true) ∧ Below w.heap.size w w' := by
  have hB : Below w.heap.size w w := Below.refl _ _
  go_enter Try.func5, Try.ntmps5
  go_wp2_with (first | (go_at_call 15; refine (hs.out _).mono ?_; rintro e w2 ⟨rfl, rfl⟩) | (go_at_call 14; refine (hl.out _).mono ?_; rintro e w2 ⟨rfl, hb⟩; replace hB := bstep hB (Nat.le_refl _) hb; clear hb) | (go_at_call 11; refine (awake_any _).mono ?_; rintro e w2 ⟨rfl, hb⟩; replace hB := bstep hB (Nat.le_refl _) hb; clear hb))
  go_ret
  exact ⟨rfl, hB⟩

set_option maxHeartbeats 1000000 in
theorem sleast_one (p need t l : Int) (w : World) (h1 : 1 ≤ p) (h2 : p ≤ 1048576) (hn : 0 ≤ need) (h3 : 0 ≤ t) (h4 : t ≤ 1048576)
    (hs : Shut (∀ w : World, Calls Try.prog 15 #[.int .i64 p, .int .i64 need, .int .i64 t] w fun e w' => e = .returned (.tuple #[.int .i64 1, .bool true]) ∧ w = w'))
    (hl : Shut (∀ w : World, Calls Try.prog 14 #[.agg #[.int .i64 1, .int .i64 p], .int .i64 t] w fun e w' => e = .returned (.int .i64 l) ∧ Below w.heap.size w w')) (hlt : need ≤ l) :
    Calls Try.prog 5 #[.int .i64 p, .int .i64 need, .int .i64 t] w fun e w' => e = .returned (.bool true) ∧ Below w.heap.size w w' := by
  have hB : Below w.heap.size w w := Below.refl _ _
  go_enter Try.func5, Try.ntmps5
  go_wp2_with (first | (go_at_call 15; refine (hs.out _).mono ?_; rintro e w2 ⟨rfl, rfl⟩) | (go_at_call 14; refine (hl.out _).mono ?_; rintro e w2 ⟨rfl, hb⟩; replace hB := bstep hB (Nat.le_refl _) hb; clear hb) | (go_at_call 11; refine (awake_any _).mono ?_; rintro e w2 ⟨rfl, hb⟩; replace hB := bstep hB (Nat.le_refl _) hb; clear hb))
  go_ret
  exact ⟨rfl, hB⟩

set_option maxHeartbeats 1000000 in
theorem sleast_more (p need t u l m : Int) (w : World) (h1 : 1 ≤ p) (h2 : p ≤ 1048576) (hn : 1 ≤ need) (h3 : 0 ≤ t) (h4 : t ≤ 1048576) (hu : 2 ≤ u) (hup : u ≤ p)
    (hs : Shut (∀ w : World, Calls Try.prog 15 #[.int .i64 p, .int .i64 need, .int .i64 t] w fun e w' => e = .returned (.tuple #[.int .i64 u, .bool true]) ∧ w = w'))
    (hl : Shut (∀ w : World, Calls Try.prog 14 #[.agg #[.int .i64 u, .int .i64 p], .int .i64 t] w fun e w' => e = .returned (.int .i64 l) ∧ Below w.heap.size w w')) (hlt : need ≤ l)
    (hm : Shut (∀ w : World, Calls Try.prog 14 #[.agg #[.int .i64 (u - 1), .int .i64 p], .int .i64 t] w fun e w' => e = .returned (.int .i64 m) ∧ Below w.heap.size w w')) (hmt : m < need) :
    Calls Try.prog 5 #[.int .i64 p, .int .i64 need, .int .i64 t] w fun e w' => e = .returned (.bool true) ∧ Below w.heap.size w w' := by
  have hB : Below w.heap.size w w := Below.refl _ _
  go_enter Try.func5, Try.ntmps5
  go_wp2_with (first | (go_at_call 15; refine (hs.out _).mono ?_; rintro e w2 ⟨rfl, rfl⟩) | (go_at_call_of 14 (Value.agg #[Value.int IntKind.i64 u, Value.int IntKind.i64 p]); refine (hl.out _).mono ?_; rintro e w2 ⟨rfl, hb⟩; replace hB := bstep hB (Nat.le_refl _) hb; clear hb) | (go_at_call 14; refine (hm.out _).mono ?_; rintro e w2 ⟨rfl, hb⟩; replace hB := bstep hB (Nat.le_refl _) hb; clear hb) | (go_at_call 11; refine (awake_any _).mono ?_; rintro e w2 ⟨rfl, hb⟩; replace hB := bstep hB (Nat.le_refl _) hb; clear hb))
  go_ret
  exact ⟨rfl, hB⟩

theorem least_few (p t need : Int) (h1 : 1 ≤ p) (hn : 1 ≤ need) (hq : t / p - 1 < 1) : leastI p p t < need := by
  unfold leastI
  have : p * (t / p - 1) ≤ p * 0 := Int.mul_le_mul_of_nonneg_left (by omega) (by omega)
  omega

theorem supplyLeast_all (p need t : Int) (w : World) (hmax : need < 9223372036854775808) :
    Calls Try.prog 5 #[.int .i64 p, .int .i64 need, .int .i64 t] w fun e w' => e = .returned (.bool true) ∧ Below w.heap.size w w' := by
  by_cases h : 1 ≤ p ∧ p ≤ 1048576 ∧ 0 ≤ need ∧ 0 ≤ t ∧ t ≤ 1048576
  · obtain ⟨h1, h2, h3, h4, h5⟩ := h
    by_cases hz : need = 0
    · subst hz
      exact sleast_one p 0 t _ w h1 h2 (by omega) h4 h5 (fun w => small_zero p t w h1 h2 (strB_t ⟨h4, h5⟩)) (fun w => refLeast_any 1 p t w (by omega) h1 h2 h4 h5) (by unfold leastI; omega)
    · by_cases hq : t / p - 1 < 1
      · exact sleast_none p need t _ w h1 h2 (by omega) h4 h5 (fun w => small_few p need t w h1 h2 (by omega) h4 h5 hq) (fun w => refLeast_any p p t w h1 (by omega) h2 h4 h5) (least_few p t need h1 (by omega) hq)
      · have hup : Shut (∀ w : World, Calls Try.prog 23 #[.int .i64 need, .int .i64 (t / p - 1)] w fun e w' => e = .returned (.int .i64 (upI need (t / p - 1))) ∧ w = w') := fun w => byUp_any need _ w (by omega) (by omega) (by omega)
        have hs := fun w => small_at p need t _ w h1 h2 (by omega) h4 h5 (by omega) hup
        have hu := up_pos need (t / p - 1) (by omega) (by omega)
        by_cases hf : p < upI need (t / p - 1)
        · simp only [if_pos hf] at hs
          refine sleast_none p need t _ w h1 h2 (by omega) h4 h5 hs (fun w => refLeast_any p p t w h1 (by omega) h2 h4 h5) ?_
          have := up_lt p need (t / p - 1) (by omega) (by omega) hf
          rw [Int.mul_comm] at this
          unfold leastI
          omega
        · simp only [if_neg hf] at hs
          have hge := up_ge need (t / p - 1) (by omega) (by omega)
          rw [Int.mul_comm] at hge
          by_cases h1u : upI need (t / p - 1) = 1
          · rw [h1u] at hs hge
            exact sleast_one p need t _ w h1 h2 (by omega) h4 h5 hs (fun w => refLeast_any 1 p t w (by omega) h1 h2 h4 h5) (by unfold leastI; omega)
          · refine sleast_more p need t _ _ _ w h1 h2 (by omega) h4 h5 (by omega) (by omega) hs (fun w => refLeast_any _ p t w (by omega) (by omega) h2 h4 h5) (by unfold leastI; omega) (fun w => refLeast_any _ p t w (by omega) (by omega) h2 h4 h5) ?_
            have := up_lt (upI need (t / p - 1) - 1) need (t / p - 1) (by omega) (by omega) (by omega)
            rw [Int.mul_comm] at this
            unfold leastI
            omega
  · exact sleast_no p need t w h

/-! SupplyGrows. -/
theorem least_mono (b p t t' : Int) (h1 : 1 ≤ b) (h2 : b ≤ p) (h : t ≤ t') : leastI b p t ≤ leastI b p t' := by
  unfold leastI
  have a1 := Int.ediv_le_ediv (show 0 < p by omega) h
  have a2 : b * (t / p - 1) ≤ b * (t' / p - 1) := Int.mul_le_mul_of_nonneg_left (by omega) (by omega)
  omega
theorem most_mono (b p t t' : Int) (h1 : 1 ≤ b) (h2 : b ≤ p) (h : t ≤ t') : mostI b p t ≤ mostI b p t' := by
  unfold mostI upI
  have a1 := Int.ediv_le_ediv (show 0 < p by omega) (show t + p - 1 ≤ t' + p - 1 by omega)
  exact Int.mul_le_mul_of_nonneg_left (by omega) (by omega)
theorem least_most (b p t : Int) (h1 : 1 ≤ b) (h2 : b ≤ p) (h : 0 ≤ t) : leastI b p t ≤ mostI b p t := by
  unfold leastI mostI upI
  have a1 := Int.ediv_le_ediv (show 0 < p by omega) (show t ≤ t + p - 1 by omega)
  have a0 := Int.ediv_nonneg h (show 0 ≤ p by omega)
  have a2 : b * (t / p - 1) ≤ b * ((t + p - 1) / p + 1) := Int.mul_le_mul_of_nonneg_left (by omega) (by omega)
  have a3 : 0 ≤ b * ((t + p - 1) / p + 1) := Int.mul_nonneg (by omega) (by omega)
  omega

set_option maxHeartbeats 2000000 in
theorem supplyGrows_at (b p n m l0 l1 m0 m1 : Int) (w : World) (n0 : 0 ≤ n) (n1 : n < 65536) (g0 : 0 ≤ m) (g1 : m < 65536)
    (hl0 : Shut (∀ w : World, Calls Try.prog 9 #[.agg #[.int .i64 b, .int .i64 p], .int .i64 n] w fun e w' => e = .returned (.int .i64 l0) ∧ Below w.heap.size w w'))
    (hl1 : Shut (∀ w : World, Calls Try.prog 9 #[.agg #[.int .i64 b, .int .i64 p], .int .i64 (n + m)] w fun e w' => e = .returned (.int .i64 l1) ∧ Below w.heap.size w w'))
    (hm0 : Shut (∀ w : World, Calls Try.prog 10 #[.agg #[.int .i64 b, .int .i64 p], .int .i64 n] w fun e w' => e = .returned (.int .i64 m0) ∧ Below w.heap.size w w'))
    (hm1 : Shut (∀ w : World, Calls Try.prog 10 #[.agg #[.int .i64 b, .int .i64 p], .int .i64 (n + m)] w fun e w' => e = .returned (.int .i64 m1) ∧ Below w.heap.size w w'))
    (f0 : l0 ≤ l1) (f1 : m0 ≤ m1) (f2 : l0 ≤ m0) :
    Calls Try.prog 3 #[.agg #[.int .i64 b, .int .i64 p], .int .u16 n, .int .u16 m] w fun e w' => e = .returned (.bool true) ∧ Below w.heap.size w w' := by
  have hB : Below w.heap.size w (w.alloc (Obj.cells #[.int .i64 b, .int .i64 p] 23)) := below1 _ _
  have HS := Lib.hid (IntWalk.i64_in (n + m) (by omega))
  go_enter Try.func3, Try.ntmps3
  go_wp2_with ((go_at_call 8; refine (to_any _ _ _).mono ?_; rintro e w2 ⟨rfl, hb⟩; replace hB := bstep hB (Nat.le_refl _) hb; clear hb))
  have d0 : (w2.alloc (Obj.cells #[.int .i64 b, .int .i64 p] 25)).cell? ⟨w2.heap.size, 0, none⟩ = some (.int .i64 b) := by simp
  have d1 : (w2.alloc (Obj.cells #[.int .i64 b, .int .i64 p] 25)).cell? ⟨w2.heap.size, 1, none⟩ = some (.int .i64 p) := by simp
  replace hB := bstep hB (Nat.le_refl _) (below1 w2 (Obj.cells #[Value.int IntKind.i64 b, Value.int IntKind.i64 p] 25))
  generalize (w2.alloc (Obj.cells #[Value.int IntKind.i64 b, Value.int IntKind.i64 p] 25)) = w3 at *
  have e1 := HS.out
  go_region_held3 (fun w' => Below w3.heap.size w3 w' ∧ w'.cell? ⟨w2.heap.size, 0, none⟩ = some (.int .i64 b) ∧ w'.cell? ⟨w2.heap.size, 1, none⟩ = some (.int .i64 p))
    (first | exact ⟨(Below.refl _ _).drew, d0, d1⟩ | exact keep2 ‹_› hb)
    (first | (go_at_call_of 9 (Value.int IntKind.i64 n); refine (hl0.out _).mono ?_; rintro e w4 ⟨rfl, hb⟩) | (go_at_call_of 10 (Value.int IntKind.i64 n); refine (hm0.out _).mono ?_; rintro e w4 ⟨rfl, hb⟩) | (go_at_call 9; refine (hl1.out _).mono ?_; rintro e w4 ⟨rfl, hb⟩) | (go_at_call 10; refine (hm1.out _).mono ?_; rintro e w4 ⟨rfl, hb⟩) | (go_at_call 11; refine (awake_any _).mono ?_; rintro e w4 ⟨rfl, hb⟩))
  rename_i hH
  replace hB := bstep hB (Nat.le_refl _) hH.1
  clear hb e1
  go_wp2
  go_ret
  exact ⟨rfl, hB⟩

theorem supplyGrows_all (b p n m : Int) (w : World) (n0 : 0 ≤ n) (n1 : n < 65536) (g0 : 0 ≤ m) (g1 : m < 65536) :
    Calls Try.prog 3 #[.agg #[.int .i64 b, .int .i64 p], .int .u16 n, .int .u16 m] w fun e w' => e = .returned (.bool true) ∧ Below w.heap.size w w' := by
  by_cases h : 1 ≤ b ∧ b ≤ p ∧ p ≤ 1048576
  · obtain ⟨h1, h2, h3⟩ := h
    exact supplyGrows_at b p n m _ _ _ _ w n0 n1 g0 g1 (fun w => least_yes b p n w h1 h2 h3 n0 (by omega)) (fun w => least_yes b p _ w h1 h2 h3 (by omega) (by omega))
      (fun w => most_yes b p n w h1 h2 h3 n0 (by omega)) (fun w => most_yes b p _ w h1 h2 h3 (by omega) (by omega)) (least_mono b p n _ h1 h2 (by omega)) (most_mono b p n _ h1 h2 (by omega)) (least_most b p n h1 h2 n0)
  · have hr := resB_f h
    exact supplyGrows_at b p n m 0 0 0 0 w n0 n1 g0 g1 (fun w => least_no b p n w (.inl hr)) (fun w => least_no b p _ w (.inl hr)) (fun w => most_no b p n w (.inl hr)) (fun w => most_no b p _ w (.inl hr)) (by omega) (by omega) (by omega)
end Go.Proofs.Ytdpjencnfladlaa
