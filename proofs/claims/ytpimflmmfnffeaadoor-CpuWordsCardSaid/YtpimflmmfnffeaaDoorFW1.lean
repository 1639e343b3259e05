/- Walks over package field. -/
import Derived.Test.YtpimflmmfnffeaaDoorBase
import Derived.Test.YtpimflmmfnffeaaDoorFM1
namespace Go.Proofs.YtpimflmmfnffeaaDoor
open Go.RowKit

def rightB (a s : Int) : Bool := decide (1 ≤ s ∧ s ≤ 64 ∧ 0 ≤ a ∧ a + s ≤ 64)

theorem rightB_t {a s : Int} (h : 1 ≤ s ∧ s ≤ 64 ∧ 0 ≤ a ∧ a + s ≤ 64) : rightB a s = true := decide_eq_true h

theorem rightB_f {a s : Int} (h : ¬ (1 ≤ s ∧ s ≤ 64 ∧ 0 ≤ a ∧ a + s ≤ 64)) : rightB a s = false := decide_eq_false h

set_option maxHeartbeats 400000 in
theorem right_any (a s : Int) (w : World) :
    Calls Tryd.prog 27 #[.agg #[.int .i64 a, .int .i64 s]] w fun e w' => e = .returned (.bool (rightB a s)) ∧ Below w.heap.size w w' := by
  go_enter Tryd.func27, Tryd.ntmps27
  go_wp2
  all_goals go_ret
  all_goals refine ⟨ret_bool ?_, below1 _ _⟩
  all_goals unfold rightB
  all_goals first | (simp; done) | (simp; omega) | (rw [decide_eq_decide]; omega)

/-- the greatest number of s bits -/
def mostI (s : Int) : Int := 2 ^ s.toNat - 1

theorem most_int (s : Int) (h1 : 1 ≤ s) (h2 : s ≤ 64) : (18446744073709551615 : Int) / 2 ^ (64 - s).toNat = mostI s := by
  unfold mostI
  obtain ⟨n, rfl⟩ := Int.eq_ofNat_of_zero_le (show 0 ≤ s by omega)
  have h := Fld.most_eq n (by omega) (by omega)
  have e : (64 - (n : Int)).toNat = 64 - n := by omega
  rw [e, Int.toNat_natCast]
  have h0 := Nat.two_pow_pos n
  have h' : ((18446744073709551615 / 2 ^ (64 - n) : Nat) : Int) = ((2 ^ n - 1 : Nat) : Int) := by rw [h]
  rw [Int.natCast_ediv, Int.natCast_sub (by omega)] at h'
  simpa using h'

theorem two_pow_lt (s : Int) (h1 : 1 ≤ s) (h2 : s ≤ 64) : 0 ≤ mostI s ∧ mostI s ≤ 18446744073709551615 := by
  unfold mostI
  have h : ∀ k : Fin 65, (0 : Int) ≤ 2 ^ k.val - 1 ∧ (2 : Int) ^ k.val - 1 ≤ 18446744073709551615 := by decide
  exact h ⟨s.toNat, by omega⟩

set_option maxHeartbeats 400000 in
theorem most_yes (a s : Int) (w : World) (h1 : 1 ≤ s) (h2 : s ≤ 64) (h3 : 0 ≤ a) (h4 : a + s ≤ 64) :
    Calls Tryd.prog 28 #[.agg #[.int .i64 a, .int .i64 s]] w fun e w' => e = .returned (.int .u64 (mostI s)) ∧ Below w.heap.size w w' := by
  have hr := rightB_t ⟨h1, h2, h3, h4⟩
  go_enter Tryd.func28, Tryd.ntmps28
  go_wp2_with (go_at_call 27; refine (right_any _ _ _).mono ?_; rintro e w' ⟨rfl, hb⟩; obtain ⟨hc, hf⟩ := bcell hb)
  go_ret
  exact ⟨ret_int (most_int s h1 h2), (below1 _ _).trans (hb.mono (by simp))⟩

set_option maxHeartbeats 400000 in
theorem most_no (a s : Int) (w : World) (h : rightB a s = false) :
    Calls Tryd.prog 28 #[.agg #[.int .i64 a, .int .i64 s]] w fun e w' => e = .returned (.int .u64 0) ∧ Below w.heap.size w w' := by
  go_enter Tryd.func28, Tryd.ntmps28
  go_wp2_with (go_at_call 27; refine (right_any _ _ _).mono ?_; rintro e w' ⟨rfl, hb⟩; obtain ⟨hc, hf⟩ := bcell hb)
  go_ret
  exact ⟨rfl, (below1 _ _).trans (hb.mono (by simp))⟩

theorem shift_amt (a : Int) (h3 : 0 ≤ a) (h4 : a ≤ 64) : min (IntKind.u64.wrap a).toNat 64 = a.toNat := by
  rw [IntKind.wrap_u64, Int.emod_eq_of_lt h3 (by omega)]; omega

theorem mask_wrap (a s : Int) (h1 : 1 ≤ s) (h2 : s ≤ 64) (h3 : 0 ≤ a) (h4 : a + s ≤ 64) :
    IntKind.u64.wrap (mostI s * 2 ^ min (IntKind.u64.wrap a).toNat 64) = mostI s * 2 ^ a.toNat := by
  unfold mostI
  rw [shift_amt a h3 (by omega), IntKind.wrap_u64]
  have h := Fld.mask_lt a.toNat s.toNat (by omega)
  have h0 := Nat.two_pow_pos s.toNat
  have e : ((2 : Int) ^ s.toNat - 1) * 2 ^ a.toNat = (((2 ^ s.toNat - 1) * 2 ^ a.toNat : Nat) : Int) := by
    rw [Int.natCast_mul, Int.natCast_sub (by omega)]; simp
  rw [e, Int.emod_eq_of_lt (by omega) (by omega)]

set_option maxHeartbeats 400000 in
theorem mask_yes (a s : Int) (w : World) (h1 : 1 ≤ s) (h2 : s ≤ 64) (h3 : 0 ≤ a) (h4 : a + s ≤ 64) :
    Calls Tryd.prog 24 #[.agg #[.int .i64 a, .int .i64 s]] w fun e w' => e = .returned (.int .u64 (mostI s * 2 ^ a.toNat)) ∧ Below w.heap.size w w' := by
  have ht := two_pow_lt s h1 h2
  go_enter Tryd.func24, Tryd.ntmps24
  go_wp2
  go_region_held3 (fun w' => Below (w.alloc (Obj.cells #[.int .i64 a, .int .i64 s] 64)).heap.size (w.alloc (Obj.cells #[.int .i64 a, .int .i64 s] 64)) w' ∧ w'.cell? ⟨w.heap.size, 0, none⟩ = some (.int .i64 a) ∧ w'.cell? ⟨w.heap.size, 1, none⟩ = some (.int .i64 s))
    (first | (refine ⟨(Below.refl _ _).drew, ?_, ?_⟩ <;> (simp; done)) | exact keep2 ‹_› hb)
    (first | (go_at_call 28; refine (most_yes _ _ _ h1 h2 h3 h4).mono ?_; rintro e w' ⟨rfl, hb⟩))
  go_wp2
  go_ret
  refine ⟨ret_int (mask_wrap a s h1 h2 h3 h4), ?_⟩
  exact bstep (below1 _ _).drew (Nat.le_refl _) hb

set_option maxHeartbeats 400000 in
theorem get_no (a s x : Int) (w : World) (h : rightB a s = false) :
    Calls Tryd.prog 25 #[.agg #[.int .i64 a, .int .i64 s], .int .u64 x] w fun e w' => e = .returned (.int .u64 0) ∧ Below w.heap.size w w' := by
  go_enter Tryd.func25, Tryd.ntmps25
  go_wp2_with (go_at_call 27; refine (right_any _ _ _).mono ?_; rintro e w' ⟨rfl, hb⟩; obtain ⟨hc, hf⟩ := bcell hb)
  go_ret
  exact ⟨rfl, bstep (below1 _ _) (Nat.le_refl _) hb⟩

theorem get_wrap (a s x : Int) (h1 : 1 ≤ s) (h2 : s ≤ 64) (h3 : 0 ≤ a) (h4 : a + s ≤ 64) (x0 : 0 ≤ x) (x1 : x < 18446744073709551616) :
    bits BinOp.and IntKind.u64 (x / 2 ^ min (IntKind.u64.wrap a).toNat 64) (mostI s) = (Fld.getN a.toNat s.toNat x.toNat : Nat) := by
  rw [shift_amt a h3 (by omega)]
  obtain ⟨n, rfl⟩ := Int.eq_ofNat_of_zero_le x0
  have ht := two_pow_lt s h1 h2
  unfold mostI at ht ⊢
  have e1 : (n : Int) / 2 ^ a.toNat = ((n / 2 ^ a.toNat : Nat) : Int) := by rw [Int.natCast_ediv]; simp
  have e2 : ((2 : Int) ^ s.toNat - 1) = ((2 ^ s.toNat - 1 : Nat) : Int) := by
    have := Nat.two_pow_pos s.toNat
    rw [Int.natCast_sub (by omega)]; simp
  have hd : n / 2 ^ a.toNat ≤ n := Nat.div_le_self _ _
  rw [e1, e2, u64_and_nat _ _ (by omega) (by omega), Fld.get_bits, Int.toNat_natCast]

set_option maxHeartbeats 400000 in
theorem get_yes (a s x : Int) (w : World) (h1 : 1 ≤ s) (h2 : s ≤ 64) (h3 : 0 ≤ a) (h4 : a + s ≤ 64) (x0 : 0 ≤ x) (x1 : x < 18446744073709551616) :
    Calls Tryd.prog 25 #[.agg #[.int .i64 a, .int .i64 s], .int .u64 x] w fun e w' => e = .returned (.int .u64 (Fld.getN a.toNat s.toNat x.toNat)) ∧ Below w.heap.size w w' := by
  have hr := rightB_t ⟨h1, h2, h3, h4⟩
  go_enter Tryd.func25, Tryd.ntmps25
  go_wp2_with (go_at_call 27; refine (right_any _ _ _).mono ?_; rintro e w1 ⟨rfl, hb⟩)
  have hB := bstep (below1 _ _) (Nat.le_refl _) hb
  have c0 : w1.cell? ⟨w.heap.size, 0, none⟩ = some (.int .i64 a) := kcell hb (by simp)
  have c1 : w1.cell? ⟨w.heap.size, 1, none⟩ = some (.int .i64 s) := kcell hb (by simp)
  clear hb
  go_region_held3 (fun w' => Below w1.heap.size w1 w' ∧ w'.cell? ⟨w.heap.size, 0, none⟩ = some (.int .i64 a) ∧ w'.cell? ⟨w.heap.size, 1, none⟩ = some (.int .i64 s))
    (first | exact ⟨(Below.refl _ _).drew, c0, c1⟩ | exact keep2 ‹_› hb)
    (first | (go_at_call 28; refine (most_yes _ _ _ h1 h2 h3 h4).mono ?_; rintro e w' ⟨rfl, hb⟩))
  go_wp2
  go_ret
  exact ⟨ret_int (get_wrap a s x h1 h2 h3 h4 x0 x1), bstep hB.drew (Nat.le_refl _) hb⟩

set_option maxHeartbeats 400000 in
theorem put_no (a s x n : Int) (w : World) (h : rightB a s = false) :
    Calls Tryd.prog 23 #[.agg #[.int .i64 a, .int .i64 s], .int .u64 x, .int .u64 n] w fun e w' => e = .returned (.tuple #[.int .u64 0, .int .i64 1]) ∧ Below w.heap.size w w' := by
  go_enter Tryd.func23, Tryd.ntmps23
  go_wp2_with (go_at_call 27; refine (right_any _ _ _).mono ?_; rintro e w' ⟨rfl, hb⟩; obtain ⟨hc, hf⟩ := bcell hb)
  go_ret2
  exact ⟨rfl, bstep (below1 _ _) (Nat.le_refl _) hb⟩

set_option maxHeartbeats 400000 in
theorem put_big (a s x n : Int) (w : World) (h1 : 1 ≤ s) (h2 : s ≤ 64) (h3 : 0 ≤ a) (h4 : a + s ≤ 64) (hn : mostI s < n) :
    Calls Tryd.prog 23 #[.agg #[.int .i64 a, .int .i64 s], .int .u64 x, .int .u64 n] w fun e w' => e = .returned (.tuple #[.int .u64 0, .int .i64 1]) ∧ Below w.heap.size w w' := by
  have hr := rightB_t ⟨h1, h2, h3, h4⟩
  go_enter Tryd.func23, Tryd.ntmps23
  go_wp2_with (first | (go_at_call 27; refine (right_any _ _ _).mono ?_; rintro e w' ⟨rfl, hb⟩; obtain ⟨hc, hf⟩ := bcell hb) | (go_at_call 28; refine (most_yes _ _ _ h1 h2 h3 h4).mono ?_; rintro e w2 ⟨rfl, hb2⟩; obtain ⟨hc2, hf2⟩ := bcell hb2))
  go_ret2
  exact ⟨rfl, bstep (bstep (below1 _ _) (Nat.le_refl _) hb) (Nat.le_refl _) hb2⟩

theorem put_wrap (a s x n : Int) (h1 : 1 ≤ s) (h2 : s ≤ 64) (h3 : 0 ≤ a) (h4 : a + s ≤ 64) (x0 : 0 ≤ x) (x1 : x < 18446744073709551616) (n0 : 0 ≤ n) (hn : n ≤ mostI s) :
    bits BinOp.or IntKind.u64 (bits BinOp.andNot IntKind.u64 x (mostI s * 2 ^ a.toNat)) (IntKind.u64.wrap (n * 2 ^ min (IntKind.u64.wrap a).toNat 64)) = (Fld.putN a.toNat s.toNat x.toNat n.toNat : Nat) := by
  unfold mostI at hn ⊢
  rw [shift_amt a h3 (by omega), IntKind.wrap_u64]
  obtain ⟨X, rfl⟩ := Int.eq_ofNat_of_zero_le x0
  obtain ⟨N, rfl⟩ := Int.eq_ofNat_of_zero_le n0
  have hp := Nat.two_pow_pos s.toNat
  have hN : N < 2 ^ s.toNat := by
    have : ((2 : Int) ^ s.toNat) = ((2 ^ s.toNat : Nat) : Int) := by simp
    omega
  have e1 : ((2 : Int) ^ s.toNat - 1) * 2 ^ a.toNat = (((2 ^ s.toNat - 1) * 2 ^ a.toNat : Nat) : Int) := by
    rw [Int.natCast_mul, Int.natCast_sub (by omega)]; simp
  have e2 : (N : Int) * 2 ^ a.toNat = ((N * 2 ^ a.toNat : Nat) : Int) := by rw [Int.natCast_mul]; simp
  have hm := Fld.mask_lt a.toNat s.toNat (by omega)
  have hNa : N * 2 ^ a.toNat < 18446744073709551616 := Nat.lt_of_le_of_lt (Nat.mul_le_mul_right _ (by omega)) hm
  have hX : X &&& (18446744073709551615 - (2 ^ s.toNat - 1) * 2 ^ a.toNat) ≤ X := Nat.and_le_left
  rw [e1, e2, Int.emod_eq_of_lt (by omega) (by omega), u64_andNot_nat _ _ (by omega) hm, u64_or_nat _ _ (by omega) hNa,
    Fld.put_bits _ _ _ _ (by omega) (by omega) hN, Int.toNat_natCast, Int.toNat_natCast]

set_option maxHeartbeats 400000 in
theorem put_yes (a s x n : Int) (w : World) (h1 : 1 ≤ s) (h2 : s ≤ 64) (h3 : 0 ≤ a) (h4 : a + s ≤ 64) (x0 : 0 ≤ x) (x1 : x < 18446744073709551616) (n0 : 0 ≤ n) (hn : n ≤ mostI s) :
    Calls Tryd.prog 23 #[.agg #[.int .i64 a, .int .i64 s], .int .u64 x, .int .u64 n] w fun e w' => e = .returned (.tuple #[.int .u64 (Fld.putN a.toNat s.toNat x.toNat n.toNat), .int .i64 0]) ∧ Below w.heap.size w w' := by
  have hr := rightB_t ⟨h1, h2, h3, h4⟩
  go_enter Tryd.func23, Tryd.ntmps23
  go_wp2_with (first | (go_at_call 27; refine (right_any _ _ _).mono ?_; rintro e w' ⟨rfl, hb⟩; obtain ⟨hc, hf⟩ := bcell hb) | (go_at_call 28; refine (most_yes _ _ _ h1 h2 h3 h4).mono ?_; rintro e w1 ⟨rfl, hb2⟩))
  have hB := bstep (bstep (below1 _ _) (Nat.le_refl _) hb) (Nat.le_refl _) hb2
  have c0 : w1.cell? ⟨w.heap.size, 0, none⟩ = some (.int .i64 a) := kcell hb2 (kcell hb (by simp))
  have c1 : w1.cell? ⟨w.heap.size, 1, none⟩ = some (.int .i64 s) := kcell hb2 (kcell hb (by simp))
  clear hb2 hb hc hf
  go_region_held3 (fun w' => Below w1.heap.size w1 w' ∧ w'.cell? ⟨w.heap.size, 0, none⟩ = some (.int .i64 a) ∧ w'.cell? ⟨w.heap.size, 1, none⟩ = some (.int .i64 s))
    (first | exact ⟨(Below.refl _ _).drew, c0, c1⟩ | exact keep2 ‹_› hb)
    (first | (go_at_call 24; refine (mask_yes _ _ _ h1 h2 h3 h4).mono ?_; rintro e w' ⟨rfl, hb⟩))
  go_wp2
  go_ret2
  exact ⟨congrArg (fun v => Ending.returned (.tuple #[.int .u64 v, .int .i64 0])) (put_wrap a s x n h1 h2 h3 h4 x0 x1 n0 hn), bstep hB.drew (Nat.le_refl _) hb⟩
end Go.Proofs.YtpimflmmfnffeaaDoor
