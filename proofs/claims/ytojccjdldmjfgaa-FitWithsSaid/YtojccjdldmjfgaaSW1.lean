/- Walks over package supply: which reservations may be, what they give at least, the least budget. -/
import Derived.Test.YtojccjdldmjfgaaBase
namespace Go.Proofs.Ytojccjdldmjfgaa.Sup
open Go.RowKit

def resB (b p : Int) : Bool := decide (1 ≤ b ∧ b ≤ p ∧ p ≤ 1048576)

theorem resB_t {b p : Int} (h : 1 ≤ b ∧ b ≤ p ∧ p ≤ 1048576) : resB b p = true := decide_eq_true h

theorem resB_f {b p : Int} (h : ¬ (1 ≤ b ∧ b ≤ p ∧ p ≤ 1048576)) : resB b p = false := decide_eq_false h

def strB (t : Int) : Bool := decide (0 ≤ t ∧ t ≤ 1048576)

theorem strB_t {t : Int} (h : 0 ≤ t ∧ t ≤ 1048576) : strB t = true := decide_eq_true h

theorem strB_f {t : Int} (h : ¬ (0 ≤ t ∧ t ≤ 1048576)) : strB t = false := decide_eq_false h

/-- a by b, up -/
def upI (a b : Int) : Int := (a + b - 1) / b

def leastI (b p t : Int) : Int := max 0 (b * (t / p - 1))

set_option maxHeartbeats 400000 in
theorem right_any (b p : Int) (w : World) :
    Calls Try.prog 31 #[.agg #[.int .i64 b, .int .i64 p]] w fun e w' => e = .returned (.bool (resB b p)) ∧ Below w.heap.size w w' := by
  go_enter Try.func31, Try.ntmps31
  go_wp2
  all_goals go_ret
  all_goals refine ⟨ret_bool ?_, below1 _ _⟩
  all_goals unfold resB
  all_goals first | (simp; done) | (simp; omega) | (rw [decide_eq_decide]; omega)

set_option maxHeartbeats 400000 in
theorem refRight_any (b p : Int) (w : World) :
    Calls Try.prog 29 #[.agg #[.int .i64 b, .int .i64 p]] w fun e w' => e = .returned (.bool (resB b p)) ∧ Below w.heap.size w w' := by
  go_enter Try.func29, Try.ntmps29
  go_wp2
  all_goals go_ret
  all_goals refine ⟨ret_bool ?_, below1 _ _⟩
  all_goals unfold resB
  all_goals first | (simp; done) | (simp; omega) | (rw [decide_eq_decide]; omega)

set_option maxHeartbeats 400000 in
theorem stretch_any (t : Int) (w : World) :
    Calls Try.prog 36 #[.int .i64 t] w fun e w' => e = .returned (.bool (strB t)) ∧ w = w' := by
  go_enter Try.func36, Try.ntmps36
  go_wp2
  all_goals go_ret
  all_goals refine ⟨ret_bool ?_, rfl⟩
  all_goals unfold strB
  all_goals first | (simp; done) | (simp; omega) | (rw [decide_eq_decide]; omega)

theorem up_of (a b : Int) (h : 0 ≤ a) (hb : 1 ≤ b) (hz : a % b = 0) : upI a b = a / b := by
  unfold upI
  have e := Int.mul_ediv_add_emod a b
  rw [hz] at e
  have e1 : a + b - 1 = b - 1 + b * (a / b) := by omega
  rw [e1, Int.add_mul_ediv_left _ _ (by omega), Int.ediv_eq_zero_of_lt (by omega) (by omega)]
  omega

theorem up_more (a b : Int) (h : 0 ≤ a) (hb : 1 ≤ b) (hz : ¬ a % b = 0) : upI a b = a / b + 1 := by
  unfold upI
  have e := Int.mul_ediv_add_emod a b
  have h1 := Int.emod_nonneg a (show b ≠ 0 by omega)
  have h2 := Int.emod_lt_of_pos a (show 0 < b by omega)
  have e1 : a + b - 1 = (a % b - 1) + b * (a / b + 1) := by rw [Int.mul_add]; omega
  rw [e1, Int.add_mul_ediv_left _ _ (by omega), Int.ediv_eq_zero_of_lt (by omega) (by omega)]
  omega

theorem div_le_self (a b : Int) (h : 0 ≤ a) (hb : 1 ≤ b) : 0 ≤ a / b ∧ a / b ≤ a :=
  ⟨Int.ediv_nonneg h (by omega), Int.ediv_le_self _ h⟩

theorem up_bd (t p : Int) (h4 : 0 ≤ t) (hp : 1 ≤ p) : 0 ≤ upI t p ∧ upI t p ≤ t := by
  have hd := div_le_self t p h4 hp
  by_cases hz : t % p = 0
  · rw [up_of t p h4 hp hz]; omega
  · rw [up_more t p h4 hp hz]
    refine ⟨by omega, ?_⟩
    have e := Int.mul_ediv_add_emod t p
    have h1 := Int.emod_nonneg t (show p ≠ 0 by omega)
    have a2 : 1 * (t / p) ≤ p * (t / p) := Int.mul_le_mul_of_nonneg_right hp hd.1
    omega

set_option maxHeartbeats 400000 in
theorem byUp_any (a b : Int) (w : World) (h : 0 ≤ a) (h' : a ≤ 9223372036854775807) (hb : 1 ≤ b) :
    Calls Try.prog 39 #[.int .i64 a, .int .i64 b] w fun e w' => e = .returned (.int .i64 (upI a b)) ∧ w = w' := by
  have hd := div_le_self a b h hb
  have hne : (b == 0) = false := by simp; omega
  cases hz : (a % b != 0)
  · have H0 : Hid (a % b = 0) := by simpa [Hid] using hz
    go_enter Try.func39, Try.ntmps39
    go_wp2
    go_ret
    exact ⟨ret_int (up_of a b h hb H0.out).symm, rfl⟩
  · have H0 : Hid (¬ a % b = 0) := by simpa [Hid] using hz
    have hu := up_bd a b h hb
    rw [up_more a b h hb H0.out] at hu
    go_enter Try.func39, Try.ntmps39
    go_wp2
    go_ret
    exact ⟨ret_int (up_more a b h hb H0.out).symm, rfl⟩

set_option maxHeartbeats 400000 in
theorem least_no (b p t : Int) (w : World) (h : resB b p = false ∨ (resB b p = true ∧ strB t = false)) :
    Calls Try.prog 27 #[.agg #[.int .i64 b, .int .i64 p], .int .i64 t] w fun e w' => e = .returned (.int .i64 0) ∧ Below w.heap.size w w' := by
  have hB : Below w.heap.size w (w.alloc (Obj.cells #[.int .i64 b, .int .i64 p] 31)) := below1 _ _
  rcases h with h | ⟨h, h2⟩
  all_goals
    go_enter Try.func27, Try.ntmps27
    go_wp2_with (first | (go_at_call 31; refine (right_any _ _ _).mono ?_; rintro e w2 ⟨rfl, hb⟩; replace hB := bstep hB (Nat.le_refl _) hb; clear hb) | (go_at_call 36; refine (stretch_any _ _).mono ?_; rintro e w2 ⟨rfl, rfl⟩))
    go_ret
    exact ⟨rfl, hB⟩

theorem mul_bd (b k : Int) (h1 : 0 ≤ b) (h2 : b ≤ 1048576) (h3 : -1 ≤ k) (h4 : k ≤ 1048577) : -1048576 ≤ b * k ∧ b * k ≤ 1099512676352 := by
  have a1 : b * k ≤ b * 1048577 := Int.mul_le_mul_of_nonneg_left h4 h1
  have a2 : b * (-1) ≤ b * k := Int.mul_le_mul_of_nonneg_left h3 h1
  omega

theorem quo_in (t p : Int) (h4 : 0 ≤ t) (h5 : t ≤ 1048576) (hp : 1 ≤ p) : IntKind.i64.wrap (t.tdiv p) = t / p := by
  have hd := div_le_self t p h4 hp
  rw [Int.tdiv_eq_ediv_of_nonneg h4, IntWalk.i64_in _ (by omega)]

set_option maxHeartbeats 400000 in
theorem least_yes (b p t : Int) (w : World) (h1 : 1 ≤ b) (h2 : b ≤ p) (h3 : p ≤ 1048576) (h4 : 0 ≤ t) (h5 : t ≤ 1048576) :
    Calls Try.prog 27 #[.agg #[.int .i64 b, .int .i64 p], .int .i64 t] w fun e w' => e = .returned (.int .i64 (leastI b p t)) ∧ Below w.heap.size w w' := by
  have hr := resB_t ⟨h1, h2, h3⟩
  have ht := strB_t ⟨h4, h5⟩
  have hp1 : 1 ≤ p := by omega
  have hd := div_le_self t p h4 hp1
  have hne : ¬ p = 0 := by omega
  have hm := mul_bd b (t / p - 1) (by omega) (by omega) (by omega) (by omega)
  have HM := Lib.hid (IntWalk.i64_in (b * (t / p - 1)) (by omega))
  have HQ := Lib.hid (quo_in t p h4 h5 hp1)
  have HD := Lib.hid (IntWalk.i64_in (t / p - 1) (by omega))
  have hB : Below w.heap.size w (w.alloc (Obj.cells #[.int .i64 b, .int .i64 p] 31)) := below1 _ _
  have c0 : (w.alloc (Obj.cells #[.int .i64 b, .int .i64 p] 31)).cell? ⟨w.heap.size, 0, none⟩ = some (.int .i64 b) := by simp
  have c1 : (w.alloc (Obj.cells #[.int .i64 b, .int .i64 p] 31)).cell? ⟨w.heap.size, 1, none⟩ = some (.int .i64 p) := by simp
  go_enter Try.func27, Try.ntmps27
  go_wp2_with (first | (go_at_call 31; refine (right_any _ _ _).mono ?_; rintro e w2 ⟨rfl, hb⟩; replace c0 := kcell hb c0; replace c1 := kcell hb c1; replace hB := bstep hB (Nat.le_refl _) hb; clear hb) | (go_at_call 36; refine (stretch_any _ _).mono ?_; rintro e w2 ⟨rfl, rfl⟩))
  have e1 := HM.out
  have e2 := HQ.out
  have e3 := HD.out
  go_region_held3 (fun w' => Below w2.heap.size w2 w' ∧ w'.cell? ⟨w.heap.size, 0, none⟩ = some (.int .i64 b) ∧ w'.cell? ⟨w.heap.size, 1, none⟩ = some (.int .i64 p))
    (first | exact ⟨(Below.refl _ _).drew, c0, c1⟩ | exact keep2 ‹_› hb)
    (fail)
  clear e1 e2 e3
  go_wp2
  all_goals go_ret
  all_goals refine ⟨ret_int ?_, hB.drew⟩
  all_goals unfold leastI
  all_goals generalize b * (t / p - 1) = z at *
  all_goals omega

theorem steps_least (b p t : Int) (k : Nat) (h1 : 1 ≤ b) (h2 : b ≤ p) (hk : k = 0 ∨ (2 + (k : Int)) * p ≤ t + p) (h4 : 0 ≤ t) (hx : t < (2 + (k : Int)) * p) : b * (k : Int) = leastI b p t := by
  unfold leastI
  have e : t / p = 1 + k ∨ (k = 0 ∧ t / p < 1 + 0) := by
    by_cases hk0 : p ≤ t
    · left
      have e1 : (1 + (k : Int)) * p ≤ t := by
        rcases hk with rfl | hk
        · simpa using hk0
        · rw [Int.add_mul] at *; omega
      have e2 : t < (1 + (k : Int) + 1) * p := by rw [show (1 + (k : Int) + 1) = 2 + k by omega]; exact hx
      have a1 := Int.ediv_le_ediv (show 0 < p by omega) e1
      rw [Int.mul_ediv_cancel _ (by omega)] at a1
      have a2 := Int.ediv_lt_of_lt_mul (show 0 < p by omega) e2
      omega
    · right
      constructor
      · rcases Nat.eq_zero_or_pos k with h | h
        · exact h
        · exfalso
          have : 1 * p ≤ (k : Int) * p := Int.mul_le_mul_of_nonneg_right (by omega) (by omega)
          rcases hk with hk | hk
          · omega
          · rw [Int.add_mul] at hk
            omega
      · rw [Int.ediv_eq_zero_of_lt h4 (by omega)]; omega
  rcases e with e | ⟨rfl, e⟩
  · rw [e, show (1 + (k : Int) - 1) = k by omega]
    have : 0 ≤ b * (k : Int) := Int.mul_nonneg (by omega) (by omega)
    omega
  · have : b * (t / p - 1) ≤ b * 0 := Int.mul_le_mul_of_nonneg_left (by omega) (by omega)
    simp at this ⊢
    omega

set_option maxHeartbeats 400000 in
theorem refLeast_any (b p t : Int) (w : World) (h1 : 1 ≤ b) (h2 : b ≤ p) (h3 : p ≤ 1048576) (h4 : 0 ≤ t) (h5 : t ≤ 1048576) :
    Calls Try.prog 20 #[.agg #[.int .i64 b, .int .i64 p], .int .i64 t] w fun e w' => e = .returned (.int .i64 (leastI b p t)) ∧ Below w.heap.size w w' := by
  go_enter Try.func20, Try.ntmps20
  go_wp2
  go_loop [5, 6] (fun n a => ∃ (k : Nat) (y z : Int), a = .int .i64 y ∧ n = .int .i64 z ∧ 0 ≤ y ∧ y ≤ t + 2 * p ∧ 0 ≤ z ∧ z ≤ y ∧ Hid (y = (2 + (k : Int)) * p ∧ z = b * k ∧ (k = 0 ∨ y ≤ t + p))) (fun _ a => (t + 2 * p - intOf a).toNat)
  case atStart => exact ⟨0, 2 * p, 0, rfl, rfl, by omega, by omega, by omega, by omega, by simp [Hid]⟩
  case round =>
    obtain ⟨k, y, z, rfl, rfl, y0, y1, z0, z1, HY⟩ := hrel
    by_cases hlt : y ≤ t
    · go_wp2
      go_round
      case rel => exact ⟨k + 1, y + p, z + b, rfl, rfl, by omega, by omega, by omega, by omega, ⟨by rw [HY.out.1, show (2 + ((k + 1 : Nat) : Int)) = (2 + (k : Int)) + 1 by omega, Int.add_mul _ 1, Int.one_mul], by rw [HY.out.2.1]; rw [show ((k + 1 : Nat) : Int) = (k : Int) + 1 by omega, Int.mul_add]; omega, by right; omega⟩⟩
      case measure => simp [intOf]; omega
    · go_wp2
      go_ret
      refine ⟨ret_int ?_, below1 _ _⟩
      obtain ⟨e1, e2, e3⟩ := HY.out
      rw [e2]
      exact steps_least b p t k h1 h2 (by rw [← e1]; exact e3) h4 (by omega)
theorem up_lt (k a b : Int) (_ha : 0 ≤ a) (hb : 1 ≤ b) (h : k < upI a b) : b * k < a := by
  unfold upI at h
  have h2 := (Int.le_ediv_iff_mul_le (show 0 < b by omega)).1 (show k + 1 ≤ (a + b - 1) / b by omega)
  rw [Int.add_mul, Int.mul_comm k b] at h2
  omega

theorem up_ge (a b : Int) (_ha : 0 ≤ a) (hb : 1 ≤ b) : a ≤ b * upI a b := by
  unfold upI
  have h2 := Int.lt_ediv_add_one_mul_self (a + b - 1) (show 0 < b by omega)
  rw [Int.add_mul, Int.mul_comm _ b] at h2
  omega

theorem up_pos (a b : Int) (ha : 1 ≤ a) (hb : 1 ≤ b) : 1 ≤ upI a b := by
  unfold upI
  exact (Int.le_ediv_iff_mul_le (show 0 < b by omega)).2 (by omega)
set_option maxHeartbeats 400000 in
theorem small_no (p need t : Int) (w : World) (h : ¬ (1 ≤ p ∧ p ≤ 1048576 ∧ 0 ≤ need ∧ 0 ≤ t ∧ t ≤ 1048576)) :
    Calls Try.prog 33 #[.int .i64 p, .int .i64 need, .int .i64 t] w fun e w' => e = .returned (.tuple #[.int .i64 0, .bool false]) ∧ w = w' := by
  by_cases h1 : 1 ≤ p
  · by_cases h2 : p ≤ 1048576
    · by_cases h3 : 0 ≤ need
      · have hs : strB t = false := strB_f (fun hh => h ⟨h1, h2, h3, hh⟩)
        clear h
        go_enter Try.func33, Try.ntmps33
        go_wp2_with ((go_at_call 36; refine (stretch_any _ _).mono ?_; rintro e w2 ⟨rfl, rfl⟩))
        go_ret2
        exact ⟨rfl, rfl⟩
      · clear h
        go_enter Try.func33, Try.ntmps33
        go_wp2_with ((go_at_call 36; refine (stretch_any _ _).mono ?_; rintro e w2 ⟨rfl, rfl⟩))
        go_ret2
        exact ⟨rfl, rfl⟩
    · clear h
      go_enter Try.func33, Try.ntmps33
      go_wp2_with ((go_at_call 36; refine (stretch_any _ _).mono ?_; rintro e w2 ⟨rfl, rfl⟩))
      go_ret2
      exact ⟨rfl, rfl⟩
  · clear h
    go_enter Try.func33, Try.ntmps33
    go_wp2_with ((go_at_call 36; refine (stretch_any _ _).mono ?_; rintro e w2 ⟨rfl, rfl⟩))
    go_ret2
    exact ⟨rfl, rfl⟩

set_option maxHeartbeats 400000 in
theorem small_zero (p t : Int) (w : World) (h1 : 1 ≤ p) (h2 : p ≤ 1048576) (hs : strB t = true) :
    Calls Try.prog 33 #[.int .i64 p, .int .i64 0, .int .i64 t] w fun e w' => e = .returned (.tuple #[.int .i64 1, .bool true]) ∧ w = w' := by
  go_enter Try.func33, Try.ntmps33
  go_wp2_with ((go_at_call 36; refine (stretch_any _ _).mono ?_; rintro e w2 ⟨rfl, rfl⟩))
  go_ret2
  exact ⟨rfl, rfl⟩

set_option maxHeartbeats 400000 in
theorem small_few (p need t : Int) (w : World) (h1 : 1 ≤ p) (h2 : p ≤ 1048576) (hn : 1 ≤ need) (h3 : 0 ≤ t) (h4 : t ≤ 1048576) (hq : t / p - 1 < 1) :
    Calls Try.prog 33 #[.int .i64 p, .int .i64 need, .int .i64 t] w fun e w' => e = .returned (.tuple #[.int .i64 0, .bool false]) ∧ w = w' := by
  have hs := strB_t ⟨h3, h4⟩
  have hd := div_le_self t p h3 h1
  go_enter Try.func33, Try.ntmps33
  go_wp2_with ((go_at_call 36; refine (stretch_any _ _).mono ?_; rintro e w2 ⟨rfl, rfl⟩))
  go_ret2
  exact ⟨rfl, rfl⟩

set_option maxHeartbeats 400000 in
theorem small_at (p need t u : Int) (w : World) (h1 : 1 ≤ p) (h2 : p ≤ 1048576) (hn : 1 ≤ need) (h3 : 0 ≤ t) (h4 : t ≤ 1048576) (hq : 1 ≤ t / p - 1)
    (hu : Shut (∀ w : World, Calls Try.prog 39 #[.int .i64 need, .int .i64 (t / p - 1)] w fun e w' => e = .returned (.int .i64 u) ∧ w = w')) :
    Calls Try.prog 33 #[.int .i64 p, .int .i64 need, .int .i64 t] w fun e w' => (e = .returned (.tuple (if p < u then #[.int .i64 0, .bool false] else #[.int .i64 u, .bool true]))) ∧ w = w' := by
  have hs := strB_t ⟨h3, h4⟩
  have hd := div_le_self t p h3 h1
  by_cases hf : p < u
  · rw [if_pos hf]
    go_enter Try.func33, Try.ntmps33
    go_wp2_with (first | (go_at_call 36; refine (stretch_any _ _).mono ?_; rintro e w2 ⟨rfl, rfl⟩) | (go_at_call 39; refine (hu.out _).mono ?_; rintro e w2 ⟨rfl, rfl⟩))
    go_ret2
    exact ⟨rfl, rfl⟩
  · rw [if_neg hf]
    go_enter Try.func33, Try.ntmps33
    go_wp2_with (first | (go_at_call 36; refine (stretch_any _ _).mono ?_; rintro e w2 ⟨rfl, rfl⟩) | (go_at_call 39; refine (hu.out _).mono ?_; rintro e w2 ⟨rfl, rfl⟩))
    go_ret2
    exact ⟨rfl, rfl⟩

theorem least_few (p t need : Int) (h1 : 1 ≤ p) (hn : 1 ≤ need) (hq : t / p - 1 < 1) : leastI p p t < need := by
  unfold leastI
  have : p * (t / p - 1) ≤ p * 0 := Int.mul_le_mul_of_nonneg_left (by omega) (by omega)
  omega

theorem least_mono (b p t t' : Int) (h1 : 1 ≤ b) (h2 : b ≤ p) (h : t ≤ t') : leastI b p t ≤ leastI b p t' := by
  unfold leastI
  have a1 := Int.ediv_le_ediv (show 0 < p by omega) h
  have a2 : b * (t / p - 1) ≤ b * (t' / p - 1) := Int.mul_le_mul_of_nonneg_left (by omega) (by omega)
  omega
end Go.Proofs.Ytojccjdldmjfgaa.Sup
