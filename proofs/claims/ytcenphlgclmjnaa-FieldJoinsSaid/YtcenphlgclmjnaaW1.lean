/- Walks over package field and its reference: what each small function computes. -/
import Derived.Test.YtcenphlgclmjnaaRows
import Derived.Test.YtcenphlgclmjnaaM1
import Derived.WalkKit
import Derived.WalkSpells
import Derived.WalkLawsBesides
import Derived.Deep.RegionHeld3
import Derived.Lib.Hide
namespace Go.Proofs.Ytcenphlgclmjnaa
open Go.RowKit

def rightB (a s : Int) : Bool := decide (1 ≤ s ∧ s ≤ 64 ∧ 0 ≤ a ∧ a + s ≤ 64)
theorem rightB_t {a s : Int} (h : 1 ≤ s ∧ s ≤ 64 ∧ 0 ≤ a ∧ a + s ≤ 64) : rightB a s = true := decide_eq_true h
theorem rightB_f {a s : Int} (h : ¬ (1 ≤ s ∧ s ≤ 64 ∧ 0 ≤ a ∧ a + s ≤ 64)) : rightB a s = false := decide_eq_false h
theorem ret_bool {a b : Bool} (h : a = b) : Ending.returned (.bool a) = .returned (.bool b) := by rw [h]
theorem ret_int {k : IntKind} {a b : Int} (h : a = b) : Ending.returned (.int k a) = .returned (.int k b) := by rw [h]
theorem below1 (w : World) (o : Obj) : Below w.heap.size w (w.alloc o) := (Below.refl _ _).alloc (Nat.le_refl _) _

set_option maxHeartbeats 400000 in
theorem right_any (a s : Int) (w : World) :
    Calls Try.prog 11 #[.agg #[.int .i64 a, .int .i64 s]] w fun e w' => e = .returned (.bool (rightB a s)) ∧ Below w.heap.size w w' := by
  go_enter Try.func11, Try.ntmps11
  go_wp2
  all_goals go_ret
  all_goals refine ⟨ret_bool ?_, below1 _ _⟩
  all_goals unfold rightB
  all_goals first | (simp; done) | (simp; omega) | (rw [decide_eq_decide]; omega)

set_option maxHeartbeats 400000 in
theorem refRight_any (a s : Int) (w : World) :
    Calls Try.prog 12 #[.agg #[.int .i64 a, .int .i64 s]] w fun e w' => e = .returned (.bool (rightB a s)) ∧ Below w.heap.size w w' := by
  go_enter Try.func12, Try.ntmps12
  go_wp2
  all_goals go_ret
  all_goals refine ⟨ret_bool ?_, below1 _ _⟩
  all_goals unfold rightB
  all_goals first | (simp; done) | (simp; omega) | (rw [decide_eq_decide]; omega)


theorem bcell {W w1 : World} (hb : Below W.heap.size W w1) : (∀ b o, b < W.heap.size → w1.cell? ⟨b, o, none⟩ = W.cell? ⟨b, o, none⟩) ∧ (∀ b o, b < W.heap.size → w1.frozen? ⟨b, o, none⟩ = W.frozen? ⟨b, o, none⟩) :=
  ⟨fun b o h => hb.cell (p := ⟨b, o, none⟩) h, fun b o h => hb.frozen (p := ⟨b, o, none⟩) h⟩

/-- the greatest number of s bits -/
def mostI (s : Int) : Int := 2 ^ s.toNat - 1
theorem most_int (s : Int) (h1 : 1 ≤ s) (h2 : s ≤ 64) : (18446744073709551615 : Int) / 2 ^ (64 - s).toNat = mostI s := by
  unfold mostI
  obtain ⟨n, rfl⟩ := Int.eq_ofNat_of_zero_le (show 0 ≤ s by omega)
  have h := Fld.most_eq n (by omega) (by omega)
  have e : (64 - (n : Int)).toNat = 64 - n := by omega
  rw [e, Int.toNat_natCast]
  have h0 := Nat.two_pow_pos n
  have h' : ((18446744073709551615 / 2 ^ (64 - n) : Nat) : Int) = ((2 ^ n - 1 : Nat) : Int) := by rw [h]
  rw [Int.natCast_ediv, Int.natCast_sub (by omega)] at h'
  simpa using h'

theorem two_pow_lt (s : Int) (h1 : 1 ≤ s) (h2 : s ≤ 64) : 0 ≤ mostI s ∧ mostI s ≤ 18446744073709551615 := by
  unfold mostI
  have h : ∀ k : Fin 65, (0 : Int) ≤ 2 ^ k.val - 1 ∧ (2 : Int) ^ k.val - 1 ≤ 18446744073709551615 := by decide
  exact h ⟨s.toNat, by omega⟩

set_option maxHeartbeats 400000 in
theorem most_yes (a s : Int) (w : World) (h1 : 1 ≤ s) (h2 : s ≤ 64) (h3 : 0 ≤ a) (h4 : a + s ≤ 64) :
    Calls Try.prog 13 #[.agg #[.int .i64 a, .int .i64 s]] w fun e w' => e = .returned (.int .u64 (mostI s)) ∧ Below w.heap.size w w' := by
  have hr := rightB_t ⟨h1, h2, h3, h4⟩
  go_enter Try.func13, Try.ntmps13
  go_wp2_with (go_at_call 11; refine (right_any _ _ _).mono ?_; rintro e w' ⟨rfl, hb⟩; obtain ⟨hc, hf⟩ := bcell hb)
  go_ret
  exact ⟨ret_int (most_int s h1 h2), (below1 _ _).trans (hb.mono (by simp))⟩

set_option maxHeartbeats 400000 in
theorem most_no (a s : Int) (w : World) (h : rightB a s = false) :
    Calls Try.prog 13 #[.agg #[.int .i64 a, .int .i64 s]] w fun e w' => e = .returned (.int .u64 0) ∧ Below w.heap.size w w' := by
  go_enter Try.func13, Try.ntmps13
  go_wp2_with (go_at_call 11; refine (right_any _ _ _).mono ?_; rintro e w' ⟨rfl, hb⟩; obtain ⟨hc, hf⟩ := bcell hb)
  go_ret
  exact ⟨rfl, (below1 _ _).trans (hb.mono (by simp))⟩

/-- what a world keeps of another -/
theorem kcell {W w1 : World} {p : Addr} {v : Value} (hb : Below W.heap.size W w1) (h : W.cell? p = some v) : w1.cell? p = some v := by
  rw [hb.cell (World.block_lt_of_cell? W p h)]; exact h
theorem bstep {B : Nat} {W w1 w2 : World} (h : Below B W w1) (hB : B ≤ W.heap.size) (h2 : Below w1.heap.size w1 w2) : Below B W w2 :=
  h.trans (h2.mono (Nat.le_trans hB h.size))

theorem keep2 {W w1 w2 : World} {p q : Addr} {v u : Value} (h : Below W.heap.size W w1 ∧ w1.cell? p = some v ∧ w1.cell? q = some u) (hb : Below w1.heap.size w1 w2) :
    Below W.heap.size W w2 ∧ w2.cell? p = some v ∧ w2.cell? q = some u := ⟨bstep h.1 (Nat.le_refl _) hb, kcell hb h.2.1, kcell hb h.2.2⟩

theorem shift_amt (a : Int) (h3 : 0 ≤ a) (h4 : a ≤ 64) : min (IntKind.u64.wrap a).toNat 64 = a.toNat := by
  rw [IntKind.wrap_u64, Int.emod_eq_of_lt h3 (by omega)]; omega
theorem mask_wrap (a s : Int) (h1 : 1 ≤ s) (h2 : s ≤ 64) (h3 : 0 ≤ a) (h4 : a + s ≤ 64) :
    IntKind.u64.wrap (mostI s * 2 ^ min (IntKind.u64.wrap a).toNat 64) = mostI s * 2 ^ a.toNat := by
  unfold mostI
  rw [shift_amt a h3 (by omega), IntKind.wrap_u64]
  have h := Fld.mask_lt a.toNat s.toNat (by omega)
  have h0 := Nat.two_pow_pos s.toNat
  have e : ((2 : Int) ^ s.toNat - 1) * 2 ^ a.toNat = (((2 ^ s.toNat - 1) * 2 ^ a.toNat : Nat) : Int) := by
    rw [Int.natCast_mul, Int.natCast_sub (by omega)]; simp
  rw [e, Int.emod_eq_of_lt (by omega) (by omega)]

set_option maxHeartbeats 400000 in
theorem mask_yes (a s : Int) (w : World) (h1 : 1 ≤ s) (h2 : s ≤ 64) (h3 : 0 ≤ a) (h4 : a + s ≤ 64) :
    Calls Try.prog 23 #[.agg #[.int .i64 a, .int .i64 s]] w fun e w' => e = .returned (.int .u64 (mostI s * 2 ^ a.toNat)) ∧ Below w.heap.size w w' := by
  have ht := two_pow_lt s h1 h2
  go_enter Try.func23, Try.ntmps23
  go_wp2
  go_region_held3 (fun w' => Below (w.alloc (Obj.cells #[.int .i64 a, .int .i64 s] 27)).heap.size (w.alloc (Obj.cells #[.int .i64 a, .int .i64 s] 27)) w' ∧ w'.cell? ⟨w.heap.size, 0, none⟩ = some (.int .i64 a) ∧ w'.cell? ⟨w.heap.size, 1, none⟩ = some (.int .i64 s))
    (first | (refine ⟨(Below.refl _ _).drew, ?_, ?_⟩ <;> (simp; done)) | exact keep2 ‹_› hb)
    (first | (go_at_call 13; refine (most_yes _ _ _ h1 h2 h3 h4).mono ?_; rintro e w' ⟨rfl, hb⟩))
  go_wp2
  go_ret
  refine ⟨ret_int (mask_wrap a s h1 h2 h3 h4), ?_⟩
  exact bstep (below1 _ _).drew (Nat.le_refl _) hb

set_option maxHeartbeats 400000 in
theorem get_no (a s x : Int) (w : World) (h : rightB a s = false) :
    Calls Try.prog 9 #[.agg #[.int .i64 a, .int .i64 s], .int .u64 x] w fun e w' => e = .returned (.int .u64 0) ∧ Below w.heap.size w w' := by
  go_enter Try.func9, Try.ntmps9
  go_wp2_with (go_at_call 11; refine (right_any _ _ _).mono ?_; rintro e w' ⟨rfl, hb⟩; obtain ⟨hc, hf⟩ := bcell hb)
  go_ret
  exact ⟨rfl, bstep (below1 _ _) (Nat.le_refl _) hb⟩

theorem get_wrap (a s x : Int) (h1 : 1 ≤ s) (h2 : s ≤ 64) (h3 : 0 ≤ a) (h4 : a + s ≤ 64) (x0 : 0 ≤ x) (x1 : x < 18446744073709551616) :
    bits BinOp.and IntKind.u64 (x / 2 ^ min (IntKind.u64.wrap a).toNat 64) (mostI s) = (Fld.getN a.toNat s.toNat x.toNat : Nat) := by
  rw [shift_amt a h3 (by omega)]
  obtain ⟨n, rfl⟩ := Int.eq_ofNat_of_zero_le x0
  have ht := two_pow_lt s h1 h2
  unfold mostI at ht ⊢
  have e1 : (n : Int) / 2 ^ a.toNat = ((n / 2 ^ a.toNat : Nat) : Int) := by rw [Int.natCast_ediv]; simp
  have e2 : ((2 : Int) ^ s.toNat - 1) = ((2 ^ s.toNat - 1 : Nat) : Int) := by
    have := Nat.two_pow_pos s.toNat
    rw [Int.natCast_sub (by omega)]; simp
  have hd : n / 2 ^ a.toNat ≤ n := Nat.div_le_self _ _
  rw [e1, e2, u64_and_nat _ _ (by omega) (by omega), Fld.get_bits, Int.toNat_natCast]

set_option maxHeartbeats 400000 in
theorem get_yes (a s x : Int) (w : World) (h1 : 1 ≤ s) (h2 : s ≤ 64) (h3 : 0 ≤ a) (h4 : a + s ≤ 64) (x0 : 0 ≤ x) (x1 : x < 18446744073709551616) :
    Calls Try.prog 9 #[.agg #[.int .i64 a, .int .i64 s], .int .u64 x] w fun e w' => e = .returned (.int .u64 (Fld.getN a.toNat s.toNat x.toNat)) ∧ Below w.heap.size w w' := by
  have hr := rightB_t ⟨h1, h2, h3, h4⟩
  go_enter Try.func9, Try.ntmps9
  go_wp2_with (go_at_call 11; refine (right_any _ _ _).mono ?_; rintro e w1 ⟨rfl, hb⟩)
  have hB := bstep (below1 _ _) (Nat.le_refl _) hb
  have c0 : w1.cell? ⟨w.heap.size, 0, none⟩ = some (.int .i64 a) := kcell hb (by simp)
  have c1 : w1.cell? ⟨w.heap.size, 1, none⟩ = some (.int .i64 s) := kcell hb (by simp)
  clear hb
  go_region_held3 (fun w' => Below w1.heap.size w1 w' ∧ w'.cell? ⟨w.heap.size, 0, none⟩ = some (.int .i64 a) ∧ w'.cell? ⟨w.heap.size, 1, none⟩ = some (.int .i64 s))
    (first | exact ⟨(Below.refl _ _).drew, c0, c1⟩ | exact keep2 ‹_› hb)
    (first | (go_at_call 13; refine (most_yes _ _ _ h1 h2 h3 h4).mono ?_; rintro e w' ⟨rfl, hb⟩))
  go_wp2
  go_ret
  exact ⟨ret_int (get_wrap a s x h1 h2 h3 h4 x0 x1), bstep hB.drew (Nat.le_refl _) hb⟩

set_option maxHeartbeats 400000 in
theorem put_no (a s x n : Int) (w : World) (h : rightB a s = false) :
    Calls Try.prog 7 #[.agg #[.int .i64 a, .int .i64 s], .int .u64 x, .int .u64 n] w fun e w' => e = .returned (.tuple #[.int .u64 0, .int .i64 1]) ∧ Below w.heap.size w w' := by
  go_enter Try.func7, Try.ntmps7
  go_wp2_with (go_at_call 11; refine (right_any _ _ _).mono ?_; rintro e w' ⟨rfl, hb⟩; obtain ⟨hc, hf⟩ := bcell hb)
  go_ret2
  exact ⟨rfl, bstep (below1 _ _) (Nat.le_refl _) hb⟩

set_option maxHeartbeats 400000 in
theorem put_big (a s x n : Int) (w : World) (h1 : 1 ≤ s) (h2 : s ≤ 64) (h3 : 0 ≤ a) (h4 : a + s ≤ 64) (hn : mostI s < n) :
    Calls Try.prog 7 #[.agg #[.int .i64 a, .int .i64 s], .int .u64 x, .int .u64 n] w fun e w' => e = .returned (.tuple #[.int .u64 0, .int .i64 1]) ∧ Below w.heap.size w w' := by
  have hr := rightB_t ⟨h1, h2, h3, h4⟩
  go_enter Try.func7, Try.ntmps7
  go_wp2_with (first | (go_at_call 11; refine (right_any _ _ _).mono ?_; rintro e w' ⟨rfl, hb⟩; obtain ⟨hc, hf⟩ := bcell hb) | (go_at_call 13; refine (most_yes _ _ _ h1 h2 h3 h4).mono ?_; rintro e w2 ⟨rfl, hb2⟩; obtain ⟨hc2, hf2⟩ := bcell hb2))
  go_ret2
  exact ⟨rfl, bstep (bstep (below1 _ _) (Nat.le_refl _) hb) (Nat.le_refl _) hb2⟩

theorem put_wrap (a s x n : Int) (h1 : 1 ≤ s) (h2 : s ≤ 64) (h3 : 0 ≤ a) (h4 : a + s ≤ 64) (x0 : 0 ≤ x) (x1 : x < 18446744073709551616) (n0 : 0 ≤ n) (hn : n ≤ mostI s) :
    bits BinOp.or IntKind.u64 (bits BinOp.andNot IntKind.u64 x (mostI s * 2 ^ a.toNat)) (IntKind.u64.wrap (n * 2 ^ min (IntKind.u64.wrap a).toNat 64)) = (Fld.putN a.toNat s.toNat x.toNat n.toNat : Nat) := by
  unfold mostI at hn ⊢
  rw [shift_amt a h3 (by omega), IntKind.wrap_u64]
  obtain ⟨X, rfl⟩ := Int.eq_ofNat_of_zero_le x0
  obtain ⟨N, rfl⟩ := Int.eq_ofNat_of_zero_le n0
  have hp := Nat.two_pow_pos s.toNat
  have hN : N < 2 ^ s.toNat := by
    have : ((2 : Int) ^ s.toNat) = ((2 ^ s.toNat : Nat) : Int) := by simp
    omega
  have e1 : ((2 : Int) ^ s.toNat - 1) * 2 ^ a.toNat = (((2 ^ s.toNat - 1) * 2 ^ a.toNat : Nat) : Int) := by
    rw [Int.natCast_mul, Int.natCast_sub (by omega)]; simp
  have e2 : (N : Int) * 2 ^ a.toNat = ((N * 2 ^ a.toNat : Nat) : Int) := by rw [Int.natCast_mul]; simp
  have hm := Fld.mask_lt a.toNat s.toNat (by omega)
  have hNa : N * 2 ^ a.toNat < 18446744073709551616 := Nat.lt_of_le_of_lt (Nat.mul_le_mul_right _ (by omega)) hm
  have hX : X &&& (18446744073709551615 - (2 ^ s.toNat - 1) * 2 ^ a.toNat) ≤ X := Nat.and_le_left
  rw [e1, e2, Int.emod_eq_of_lt (by omega) (by omega), u64_andNot_nat _ _ (by omega) hm, u64_or_nat _ _ (by omega) hNa,
    Fld.put_bits _ _ _ _ (by omega) (by omega) hN, Int.toNat_natCast, Int.toNat_natCast]

set_option maxHeartbeats 400000 in
theorem put_yes (a s x n : Int) (w : World) (h1 : 1 ≤ s) (h2 : s ≤ 64) (h3 : 0 ≤ a) (h4 : a + s ≤ 64) (x0 : 0 ≤ x) (x1 : x < 18446744073709551616) (n0 : 0 ≤ n) (hn : n ≤ mostI s) :
    Calls Try.prog 7 #[.agg #[.int .i64 a, .int .i64 s], .int .u64 x, .int .u64 n] w fun e w' => e = .returned (.tuple #[.int .u64 (Fld.putN a.toNat s.toNat x.toNat n.toNat), .int .i64 0]) ∧ Below w.heap.size w w' := by
  have hr := rightB_t ⟨h1, h2, h3, h4⟩
  go_enter Try.func7, Try.ntmps7
  go_wp2_with (first | (go_at_call 11; refine (right_any _ _ _).mono ?_; rintro e w' ⟨rfl, hb⟩; obtain ⟨hc, hf⟩ := bcell hb) | (go_at_call 13; refine (most_yes _ _ _ h1 h2 h3 h4).mono ?_; rintro e w1 ⟨rfl, hb2⟩))
  have hB := bstep (bstep (below1 _ _) (Nat.le_refl _) hb) (Nat.le_refl _) hb2
  have c0 : w1.cell? ⟨w.heap.size, 0, none⟩ = some (.int .i64 a) := kcell hb2 (kcell hb (by simp))
  have c1 : w1.cell? ⟨w.heap.size, 1, none⟩ = some (.int .i64 s) := kcell hb2 (kcell hb (by simp))
  clear hb2 hb hc hf
  go_region_held3 (fun w' => Below w1.heap.size w1 w' ∧ w'.cell? ⟨w.heap.size, 0, none⟩ = some (.int .i64 a) ∧ w'.cell? ⟨w.heap.size, 1, none⟩ = some (.int .i64 s))
    (first | exact ⟨(Below.refl _ _).drew, c0, c1⟩ | exact keep2 ‹_› hb)
    (first | (go_at_call 23; refine (mask_yes _ _ _ h1 h2 h3 h4).mono ?_; rintro e w' ⟨rfl, hb⟩))
  go_wp2
  go_ret2
  exact ⟨congrArg (fun v => Ending.returned (.tuple #[.int .u64 v, .int .i64 0])) (put_wrap a s x n h1 h2 h3 h4 x0 x1 n0 hn), bstep hB.drew (Nat.le_refl _) hb⟩

theorem ret_pair {k : IntKind} {a b : Int} {v : Value} (h : a = b) : Ending.returned (.tuple #[.int k a, v]) = .returned (.tuple #[.int k b, v]) := by rw [h]

/-! The reference. -/
theorem tdiv2 (y : Int) (h : 0 ≤ y) (h' : y < 18446744073709551616) : IntKind.u64.wrap (y.tdiv 2) = y / 2 := by
  rw [IntKind.wrap_u64, Int.tdiv_eq_ediv_of_nonneg h, Int.emod_eq_of_lt (by omega) (by omega)]

theorem bit_cast (n m : Nat) : (((n / 2 ^ m : Nat) : Int) % 2 == 1) = Fld.bitB n m := by
  unfold Fld.bitB
  generalize n / 2 ^ m = q
  rw [Bool.eq_iff_iff]; simp only [beq_iff_eq]; omega

set_option maxHeartbeats 400000 in
theorem bit_any (x i : Int) (w : World) (x0 : 0 ≤ x) (x1 : x < 18446744073709551616) (i0 : 0 ≤ i) (i1 : i ≤ 1000) :
    Calls Try.prog 16 #[.int .u64 x, .int .i64 i] w fun e w' => e = .returned (.bool (Fld.bitB x.toNat i.toNat)) ∧ w = w' := by
  obtain ⟨n, rfl⟩ := Int.eq_ofNat_of_zero_le x0
  obtain ⟨m, rfl⟩ := Int.eq_ofNat_of_zero_le i0
  go_enter Try.func16, Try.ntmps16
  go_wp2
  go_loop [0, 1] (fun t u => ∃ (k : Nat) (y : Int), k ≤ m ∧ u = .int .i64 k ∧ t = .int .u64 y ∧ 0 ≤ y ∧ y < 18446744073709551616 ∧ Hid (y = ((n / 2 ^ (m - k) : Nat) : Int))) (fun _ u => (intOf u).toNat)
  case atStart => exact ⟨m, n, Nat.le_refl _, rfl, rfl, x0, x1, by simp [Hid]⟩
  case round =>
    obtain ⟨k, y, hk, rfl, rfl, y0, y1, HY⟩ := hrel
    by_cases hlt : 0 < k
    · go_wp2
      go_round
      case rel => exact ⟨k - 1, y / 2, by omega, by congr 1; omega, rfl, by omega, by omega, by unfold Hid; rw [Fld.half n m k hlt hk, HY.out]; omega⟩
      case measure => simp [intOf]; omega
    · obtain rfl : k = 0 := by omega
      go_wp2
      go_ret
      refine ⟨ret_bool ?_, rfl⟩
      rw [HY.out, Nat.sub_zero]
      exact bit_cast _ _

set_option maxHeartbeats 400000 in
theorem worth_any (i : Int) (w : World) (i0 : 0 ≤ i) (i1 : i ≤ 64) :
    Calls Try.prog 24 #[.int .i64 i] w fun e w' => e = .returned (.int .u64 ((2 ^ i.toNat % 18446744073709551616 : Nat) : Int)) ∧ w = w' := by
  obtain ⟨m, rfl⟩ := Int.eq_ofNat_of_zero_le i0
  go_enter Try.func24, Try.ntmps24
  go_wp2
  go_loop [0, 3] (fun u t => ∃ (k : Nat) (y : Int), k ≤ m ∧ u = .int .i64 k ∧ t = .int .u64 y ∧ 0 ≤ y ∧ y < 18446744073709551616 ∧ Hid (y = ((2 ^ (m - k) % 18446744073709551616 : Nat) : Int))) (fun u _ => (intOf u).toNat)
  case atStart => exact ⟨m, 1, Nat.le_refl _, rfl, rfl, by omega, by omega, by simp [Hid]⟩
  case round =>
    obtain ⟨k, y, hk, rfl, rfl, y0, y1, HY⟩ := hrel
    by_cases hlt : 0 < k
    · go_wp2
      go_round
      case rel => exact ⟨k - 1, _, by omega, by congr 1; omega, rfl, by rw [IntKind.wrap_u64]; omega, by rw [IntKind.wrap_u64]; omega, by unfold Hid; rw [HY.out, Fld.dbl m k hlt hk, IntKind.wrap_u64]; omega⟩
      case measure => simp [intOf]; omega
    · obtain rfl : k = 0 := by omega
      go_wp2
      go_ret
      refine ⟨ret_int ?_, rfl⟩
      rw [HY.out]; simp

theorem bit_at (x j : Int) (i : Nat) (w : World) (hj : j = i) (x0 : 0 ≤ x) (x1 : x < 18446744073709551616) (i1 : i ≤ 1000) :
    Calls Try.prog 16 #[.int .u64 x, .int .i64 j] w fun e w' => e = .returned (.bool (Fld.bitB x.toNat i)) ∧ w = w' := by
  subst hj
  exact bit_any x i w x0 x1 (by omega) (by omega)
/-- 2 to some, below 64 -/
def twoI (i : Nat) : Int := ((2 ^ i : Nat) : Int)
theorem twoI_pos (i : Nat) : 0 ≤ twoI i := Int.natCast_nonneg _
theorem worth_lt {i : Nat} (h : i < 64) : (2 ^ i % 18446744073709551616 : Nat) = 2 ^ i :=
  Nat.mod_eq_of_lt (Nat.pow_lt_pow_right (by omega) h)

theorem worth_at (j : Int) (i : Nat) (w : World) (hj : j = i) (i1 : i < 64) :
    Calls Try.prog 24 #[.int .i64 j] w fun e w' => e = .returned (.int .u64 (twoI i)) ∧ w = w' := by
  subst hj
  have h := worth_any (i : Int) w (by omega) (by omega)
  rw [Int.toNat_natCast, worth_lt i1] at h
  exact h

set_option maxHeartbeats 400000 in
theorem refMost_no (a s : Int) (w : World) (h : rightB a s = false) :
    Calls Try.prog 14 #[.agg #[.int .i64 a, .int .i64 s]] w fun e w' => e = .returned (.int .u64 0) ∧ Below w.heap.size w w' := by
  go_enter Try.func14, Try.ntmps14
  go_wp2_with (go_at_call 12; refine (refRight_any _ _ _).mono ?_; rintro e w' ⟨rfl, hb⟩; obtain ⟨hc, hf⟩ := bcell hb)
  go_ret
  exact ⟨rfl, bstep (below1 _ _) (Nat.le_refl _) hb⟩

theorem refMost_wrap (s : Int) (h1 : 1 ≤ s) (h2 : s ≤ 64) : IntKind.u64.wrap (((2 ^ s.toNat % 18446744073709551616 : Nat) : Int) - 1) = mostI s := by
  unfold mostI
  rw [IntKind.wrap_u64]
  have h : ∀ k : Fin 65, 1 ≤ k.val → (((2 ^ k.val % 18446744073709551616 : Nat) : Int) - 1) % 18446744073709551616 = 2 ^ k.val - 1 := by decide
  exact h ⟨s.toNat, by omega⟩ (by simp; omega)

set_option maxHeartbeats 400000 in
theorem refMost_yes (a s : Int) (w : World) (h1 : 1 ≤ s) (h2 : s ≤ 64) (h3 : 0 ≤ a) (h4 : a + s ≤ 64) :
    Calls Try.prog 14 #[.agg #[.int .i64 a, .int .i64 s]] w fun e w' => e = .returned (.int .u64 (mostI s)) ∧ Below w.heap.size w w' := by
  have hr := rightB_t ⟨h1, h2, h3, h4⟩
  have HW := Lib.hid (refMost_wrap s h1 h2)
  go_enter Try.func14, Try.ntmps14
  go_wp2_with (first | (go_at_call 12; refine (refRight_any _ _ _).mono ?_; rintro e w' ⟨rfl, hb⟩; obtain ⟨hc, hf⟩ := bcell hb) | (go_at_call 24; refine (worth_any _ _ (by omega) (by omega)).mono ?_; rintro e w2 ⟨rfl, rfl⟩; generalize ((2 ^ s.toNat % 18446744073709551616 : Nat) : Int) = y at *))
  go_ret
  exact ⟨ret_int HW.out, bstep (below1 _ _) (Nat.le_refl _) hb⟩

/-- what a loop of the reference holds: a number of so many bits -/
def Part (y : Int) (n : Nat) : Prop := 0 ≤ y ∧ y < 18446744073709551616 ∧ y = (n : Int)

theorem part_step {y : Int} {n m k : Nat} (h : m = n + 2 ^ k) (hy : y = (n : Int)) (hm : m < 2 ^ 64) : Part (IntKind.u64.wrap (y + twoI k)) m := by
  unfold twoI
  have e : IntKind.u64.wrap (y + ((2 ^ k : Nat) : Int)) = (m : Int) := by
    rw [IntKind.wrap_u64, h, hy]
    rw [Int.emod_eq_of_lt (by omega) (by omega)]; omega
  rw [e]; exact ⟨by omega, by omega, rfl⟩

set_option maxHeartbeats 1000000 in
theorem refGet_yes (a s x : Int) (w : World) (h1 : 1 ≤ s) (h2 : s ≤ 64) (h3 : 0 ≤ a) (h4 : a + s ≤ 64) (x0 : 0 ≤ x) (x1 : x < 18446744073709551616) :
    Calls Try.prog 15 #[.agg #[.int .i64 a, .int .i64 s], .int .u64 x] w fun e w' => e = .returned (.int .u64 (Fld.getN a.toNat s.toNat x.toNat)) ∧ Below w.heap.size w w' := by
  have hr := rightB_t ⟨h1, h2, h3, h4⟩
  obtain ⟨S, rfl⟩ := Int.eq_ofNat_of_zero_le (show 0 ≤ s by omega)
  obtain ⟨A, rfl⟩ := Int.eq_ofNat_of_zero_le h3
  go_enter Try.func15, Try.ntmps15
  go_wp2
  go_loopw [5, 6] (fun t u wr => ∃ (k : Nat) (y : Int), k ≤ S ∧ u = .int .i64 k ∧ t = .int .u64 y ∧ Hid (Part y (Fld.getN A k x.toNat)) ∧ Below (w.heap.size + 1) (w.alloc (Obj.cells #[.int .i64 A, .int .i64 S] 23)) wr) (fun _ u _ => S - (intOf u).toNat)
  case atStart => exact ⟨0, 0, Nat.zero_le _, rfl, rfl, ⟨by omega, by omega, by simp [Fld.getN, Nat.mod_one]⟩, Below.refl _ _⟩
  case round =>
    obtain ⟨k, y, hk, rfl, rfl, HY, hB⟩ := hrel
    have c0 : wr.cell? ⟨w.heap.size, 0, none⟩ = some (.int .i64 A) := by rw [hB.cell (by simp)]; simp
    have c1 : wr.cell? ⟨w.heap.size, 1, none⟩ = some (.int .i64 S) := by rw [hB.cell (by simp)]; simp
    by_cases hlt : k < S
    · have HP := HY.out
      obtain ⟨y0, y1, hy⟩ := HP
      have HG := Lib.hid (Fld.get_succ A x.toNat k)
      have HL := Lib.hid (Fld.getN_lt A (k + 1) x.toNat)
      have Hy := Lib.hid hy
      clear HY hy
      cases hbit : Fld.bitB x.toNat (A + k)
      · go_wp2_with (first | (go_at_call 12; refine (refRight_any _ _ _).mono ?_; rintro e w2 ⟨rfl, hb⟩; replace c0 := kcell hb c0; replace c1 := kcell hb c1; replace hB := bstep hB (by simp) hb; clear hb) | (go_at_call 16; refine (bit_at _ _ (A + k) _ (by omega) x0 x1 (by omega)).mono ?_; rintro e w3 ⟨rfl, rfl⟩))
        go_roundw
        case rel => exact ⟨k + 1, y, by omega, by go_num, rfl, ⟨y0, y1, by rw [HG.out, Hy.out, hbit]; simp⟩, hB⟩
        case measure => simp [intOf]; omega
      · go_wp2_with (first | (go_at_call 12; refine (refRight_any _ _ _).mono ?_; rintro e w2 ⟨rfl, hb⟩; replace c0 := kcell hb c0; replace c1 := kcell hb c1; replace hB := bstep hB (by simp) hb; clear hb) | (go_at_call 16; refine (bit_at _ _ (A + k) _ (by omega) x0 x1 (by omega)).mono ?_; rintro e w3 ⟨rfl, rfl⟩) | (go_at_call 24; refine (worth_at _ k _ (by omega) (by omega)).mono ?_; rintro e w3 ⟨rfl, rfl⟩))
        go_roundw
        case rel => exact ⟨k + 1, _, by omega, by go_num, rfl, part_step (by rw [HG.out, hbit]; simp) Hy.out (Nat.lt_of_lt_of_le HL.out (Nat.pow_le_pow_right (by omega) (by omega : k + 1 ≤ 64))), hB⟩
        case measure => simp [intOf]; omega
    · obtain rfl : k = S := by omega
      go_wp2_with (go_at_call 12; refine (refRight_any _ _ _).mono ?_; rintro e w2 ⟨rfl, hb⟩; replace c0 := kcell hb c0; replace c1 := kcell hb c1; replace hB := bstep hB (by simp) hb; clear hb)
      go_ret
      exact ⟨ret_int (by rw [HY.out.2.2]; simp), (below1 _ _).trans (hB.mono (by simp))⟩

set_option maxHeartbeats 1000000 in
theorem refGet_no (a s x : Int) (w : World) (h : rightB a s = false) :
    Calls Try.prog 15 #[.agg #[.int .i64 a, .int .i64 s], .int .u64 x] w fun e w' => e = .returned (.int .u64 0) ∧ Below w.heap.size w w' := by
  go_enter Try.func15, Try.ntmps15
  go_wp2
  go_loopw [5, 6] (fun t u wr => u = .int .i64 0 ∧ t = .int .u64 0 ∧ wr = (w.alloc (Obj.cells #[.int .i64 a, .int .i64 s] 23))) (fun _ u _ => 0)
  case atStart => exact ⟨rfl, rfl, rfl⟩
  case round =>
    obtain ⟨rfl, rfl, rfl⟩ := hrel
    go_wp2_with (go_at_call 12; refine (refRight_any _ _ _).mono ?_; rintro e w2 ⟨rfl, hb⟩)
    go_ret
    exact ⟨rfl, bstep (below1 _ _) (Nat.le_refl _) hb⟩

set_option maxHeartbeats 400000 in
theorem refPut_no (a s x n : Int) (w : World) (h : rightB a s = false) :
    Calls Try.prog 8 #[.agg #[.int .i64 a, .int .i64 s], .int .u64 x, .int .u64 n] w fun e w' => e = .returned (.tuple #[.int .u64 0, .bool false]) ∧ Below w.heap.size w w' := by
  go_enter Try.func8, Try.ntmps8
  go_wp2_with (go_at_call 12; refine (refRight_any _ _ _).mono ?_; rintro e w2 ⟨rfl, hb⟩)
  go_ret2
  exact ⟨rfl, bstep (below1 _ _) (Nat.le_refl _) hb⟩

set_option maxHeartbeats 400000 in
theorem refPut_big (a s x n : Int) (w : World) (h1 : 1 ≤ s) (h2 : s ≤ 64) (h3 : 0 ≤ a) (h4 : a + s ≤ 64) (hn : mostI s < n) :
    Calls Try.prog 8 #[.agg #[.int .i64 a, .int .i64 s], .int .u64 x, .int .u64 n] w fun e w' => e = .returned (.tuple #[.int .u64 0, .bool false]) ∧ Below w.heap.size w w' := by
  have hr := rightB_t ⟨h1, h2, h3, h4⟩
  go_enter Try.func8, Try.ntmps8
  go_wp2_with (first | (go_at_call 12; refine (refRight_any _ _ _).mono ?_; rintro e w2 ⟨rfl, hb⟩; obtain ⟨hc, hf⟩ := bcell hb) | (go_at_call 14; refine (refMost_yes _ _ _ h1 h2 h3 h4).mono ?_; rintro e w3 ⟨rfl, hb3⟩))
  go_ret2
  exact ⟨rfl, bstep (bstep (below1 _ _) (Nat.le_refl _) hb) (Nat.le_refl _) hb3⟩

set_option maxHeartbeats 2000000 in
theorem refPut_yes (a s x n : Int) (w : World) (h1 : 1 ≤ s) (h2 : s ≤ 64) (h3 : 0 ≤ a) (h4 : a + s ≤ 64) (x0 : 0 ≤ x) (x1 : x < 18446744073709551616) (n0 : 0 ≤ n) (hn : n ≤ mostI s) :
    Calls Try.prog 8 #[.agg #[.int .i64 a, .int .i64 s], .int .u64 x, .int .u64 n] w fun e w' => e = .returned (.tuple #[.int .u64 (Fld.putN a.toNat s.toNat x.toNat n.toNat), .bool true]) ∧ Below w.heap.size w w' := by
  have hr := rightB_t ⟨h1, h2, h3, h4⟩
  have ht := two_pow_lt s h1 h2
  have HN : Hid (n.toNat < 2 ^ s.toNat) := by
    unfold Hid
    unfold mostI at hn
    have : ((2 : Int) ^ s.toNat) = ((2 ^ s.toNat : Nat) : Int) := by simp
    omega
  have n1 : n < 18446744073709551616 := by omega
  have hdec : decide (mostI s < n) = false := by simp; omega
  obtain ⟨S, rfl⟩ := Int.eq_ofNat_of_zero_le (show 0 ≤ s by omega)
  obtain ⟨A, rfl⟩ := Int.eq_ofNat_of_zero_le h3
  go_enter Try.func8, Try.ntmps8
  go_wp2_with (first | (go_at_call 12; refine (refRight_any _ _ _).mono ?_; rintro e w2 ⟨rfl, hb⟩; obtain ⟨hc, hf⟩ := bcell hb) | (go_at_call 14; refine (refMost_yes _ _ _ h1 h2 h3 h4).mono ?_; rintro e w3 ⟨rfl, hb3⟩))
  have hB0 : Below (w.heap.size + 1) (w.alloc (Obj.cells #[.int .i64 A, .int .i64 S] 23)) w3 := bstep (bstep (Below.refl _ _) (by simp) hb) (by simp) hb3
  clear hb hb3 hc hf ht hdec hn
  go_loopw [8, 9, 10] (fun t u _ wr => ∃ (k : Nat) (y : Int), k ≤ 64 ∧ u = .int .i64 k ∧ t = .int .u64 y ∧ Hid (Part y (Fld.putN A S x.toNat n.toNat % 2 ^ k)) ∧ Below (w.heap.size + 1) (w.alloc (Obj.cells #[.int .i64 A, .int .i64 S] 23)) wr) (fun _ u _ _ => 64 - (intOf u).toNat)
  case atStart => exact ⟨0, 0, by omega, rfl, rfl, ⟨by omega, by omega, by simp [Nat.mod_one]⟩, hB0⟩
  case round =>
    obtain ⟨k, y, hk, rfl, rfl, HY, hB⟩ := hrel
    have c0 : wr.cell? ⟨w.heap.size, 0, none⟩ = some (.int .i64 A) := by rw [hB.cell (by simp)]; simp
    have c1 : wr.cell? ⟨w.heap.size, 1, none⟩ = some (.int .i64 S) := by rw [hB.cell (by simp)]; simp
    by_cases hlt : k < 64
    · obtain ⟨y0, y1, hy⟩ := HY.out
      have Hy := Lib.hid hy
      clear HY hy
      have HG := Lib.hid (Fld.mod_bit (Fld.putN A S x.toNat n.toNat) k)
      have HT := Lib.hid (Fld.testBit_put A S x.toNat n.toNat k HN.out)
      have HL : Hid (Fld.putN A S x.toNat n.toNat % 2 ^ (k + 1) < 2 ^ 64) := Nat.lt_of_lt_of_le (Nat.mod_lt _ (Nat.two_pow_pos _)) (Nat.pow_le_pow_right (by omega) (by omega : k + 1 ≤ 64))
      by_cases g1 : A ≤ k
      · by_cases g2 : k < A + S
        · have HT2 : Hid ((Fld.putN A S x.toNat n.toNat).testBit k = Fld.bitB n.toNat (k - A)) := by
            unfold Hid; rw [HT.out, if_neg (by omega), if_pos g2, Fld.bitB_test]
          clear HT
          cases hbit : Fld.bitB n.toNat (k - A)
          · go_wp2_with (first | (go_at_call_of 16 (Value.int IntKind.u64 x); refine (bit_at _ _ k _ (by omega) x0 x1 (by omega)).mono ?_; rintro e w3 ⟨rfl, rfl⟩) | (go_at_call_of 16 (Value.int IntKind.u64 n); refine (bit_at _ _ (k - A) _ (by omega) n0 n1 (by omega)).mono ?_; rintro e w3 ⟨rfl, rfl⟩) | (go_at_call 24; refine (worth_at _ k _ (by omega) (by omega)).mono ?_; rintro e w3 ⟨rfl, rfl⟩))
            refine ⟨⟨k + 1, y, by omega, by go_num, rfl, ⟨y0, y1, by rw [HG.out, HT2.out, hbit, Hy.out]; simp⟩, hB⟩, by simp [intOf]; omega⟩
          · go_wp2_with (first | (go_at_call_of 16 (Value.int IntKind.u64 x); refine (bit_at _ _ k _ (by omega) x0 x1 (by omega)).mono ?_; rintro e w3 ⟨rfl, rfl⟩) | (go_at_call_of 16 (Value.int IntKind.u64 n); refine (bit_at _ _ (k - A) _ (by omega) n0 n1 (by omega)).mono ?_; rintro e w3 ⟨rfl, rfl⟩) | (go_at_call 24; refine (worth_at _ k _ (by omega) (by omega)).mono ?_; rintro e w3 ⟨rfl, rfl⟩))
            refine ⟨⟨k + 1, _, by omega, by go_num, rfl, part_step (by rw [HG.out, HT2.out, hbit]; simp) Hy.out HL.out, hB⟩, by simp [intOf]; omega⟩
        · have HT2 : Hid ((Fld.putN A S x.toNat n.toNat).testBit k = Fld.bitB x.toNat k) := by
            unfold Hid; rw [HT.out, if_neg (by omega), if_neg g2, Fld.bitB_test]
          clear HT
          cases hbit : Fld.bitB x.toNat k
          · go_wp2_with (first | (go_at_call_of 16 (Value.int IntKind.u64 x); refine (bit_at _ _ k _ (by omega) x0 x1 (by omega)).mono ?_; rintro e w3 ⟨rfl, rfl⟩) | (go_at_call_of 16 (Value.int IntKind.u64 n); refine (bit_at _ _ (k - A) _ (by omega) n0 n1 (by omega)).mono ?_; rintro e w3 ⟨rfl, rfl⟩) | (go_at_call 24; refine (worth_at _ k _ (by omega) (by omega)).mono ?_; rintro e w3 ⟨rfl, rfl⟩))
            refine ⟨⟨k + 1, y, by omega, by go_num, rfl, ⟨y0, y1, by rw [HG.out, HT2.out, hbit, Hy.out]; simp⟩, hB⟩, by simp [intOf]; omega⟩
          · go_wp2_with (first | (go_at_call_of 16 (Value.int IntKind.u64 x); refine (bit_at _ _ k _ (by omega) x0 x1 (by omega)).mono ?_; rintro e w3 ⟨rfl, rfl⟩) | (go_at_call_of 16 (Value.int IntKind.u64 n); refine (bit_at _ _ (k - A) _ (by omega) n0 n1 (by omega)).mono ?_; rintro e w3 ⟨rfl, rfl⟩) | (go_at_call 24; refine (worth_at _ k _ (by omega) (by omega)).mono ?_; rintro e w3 ⟨rfl, rfl⟩))
            refine ⟨⟨k + 1, _, by omega, by go_num, rfl, part_step (by rw [HG.out, HT2.out, hbit]; simp) Hy.out HL.out, hB⟩, by simp [intOf]; omega⟩
      · have HT2 : Hid ((Fld.putN A S x.toNat n.toNat).testBit k = Fld.bitB x.toNat k) := by
          unfold Hid; rw [HT.out, if_pos (by omega), Fld.bitB_test]
        clear HT
        cases hbit : Fld.bitB x.toNat k
        · go_wp2_with (first | (go_at_call_of 16 (Value.int IntKind.u64 x); refine (bit_at _ _ k _ (by omega) x0 x1 (by omega)).mono ?_; rintro e w3 ⟨rfl, rfl⟩) | (go_at_call_of 16 (Value.int IntKind.u64 n); refine (bit_at _ _ (k - A) _ (by omega) n0 n1 (by omega)).mono ?_; rintro e w3 ⟨rfl, rfl⟩) | (go_at_call 24; refine (worth_at _ k _ (by omega) (by omega)).mono ?_; rintro e w3 ⟨rfl, rfl⟩))
          refine ⟨⟨k + 1, y, by omega, by go_num, rfl, ⟨y0, y1, by rw [HG.out, HT2.out, hbit, Hy.out]; simp⟩, hB⟩, by simp [intOf]; omega⟩
        · go_wp2_with (first | (go_at_call_of 16 (Value.int IntKind.u64 x); refine (bit_at _ _ k _ (by omega) x0 x1 (by omega)).mono ?_; rintro e w3 ⟨rfl, rfl⟩) | (go_at_call_of 16 (Value.int IntKind.u64 n); refine (bit_at _ _ (k - A) _ (by omega) n0 n1 (by omega)).mono ?_; rintro e w3 ⟨rfl, rfl⟩) | (go_at_call 24; refine (worth_at _ k _ (by omega) (by omega)).mono ?_; rintro e w3 ⟨rfl, rfl⟩))
          refine ⟨⟨k + 1, _, by omega, by go_num, rfl, part_step (by rw [HG.out, HT2.out, hbit]; simp) Hy.out HL.out, hB⟩, by simp [intOf]; omega⟩
    · obtain rfl : k = 64 := by omega
      have hl := Fld.put_lt A S x.toNat n.toNat 64 HN.out (by omega) (by omega)
      have HL := Lib.hid hl
      clear hl
      go_wp2
      go_ret2
      exact ⟨ret_pair (by rw [HY.out.2.2, Nat.mod_eq_of_lt HL.out]; simp), (below1 _ _).trans (hB.mono (by simp))⟩

end Go.Proofs.Ytcenphlgclmjnaa
