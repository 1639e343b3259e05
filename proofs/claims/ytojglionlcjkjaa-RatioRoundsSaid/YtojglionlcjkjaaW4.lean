/- Walks: the document's sum of two numbers of four digits; a number that is one word; a product. -/
import Derived.Test.YtojglionlcjkjaaW3
namespace Go.Proofs.Ytojglionlcjkjaa
open Go.RowKit

theorem ret_ib {k : IntKind} {a b : Int} {p q : Bool} (h1 : a = b) (h2 : p = q) : Ending.returned (.tuple #[.int k a, .bool p]) = .returned (.tuple #[.int k b, .bool q]) := by rw [h1, h2]
theorem prod_digits (x y : Nat) : x % 4294967296 * (y % 4294967296) + 4294967296 * (x % 4294967296 * (y / 4294967296) + x / 4294967296 * (y % 4294967296)) + 18446744073709551616 * (x / 4294967296 * (y / 4294967296)) = x * y := by
  have hx : x = x % 4294967296 + 4294967296 * (x / 4294967296) := by omega
  have hy : y = y % 4294967296 + 4294967296 * (y / 4294967296) := by omega
  generalize x % 4294967296 = x0 at *
  generalize x / 4294967296 = x1 at *
  generalize y % 4294967296 = y0 at *
  generalize y / 4294967296 = y1 at *
  subst hx hy
  have e : (x0 + 4294967296 * x1) * (y0 + 4294967296 * y1) = x0 * y0 + 4294967296 * (x0 * y1) + (4294967296 * (x1 * y0) + 4294967296 * (4294967296 * (x1 * y1))) := by
    rw [Nat.add_mul, Nat.mul_add, Nat.mul_add, Nat.mul_left_comm x0 4294967296 y1, Nat.mul_assoc 4294967296 x1 y0, Nat.mul_assoc 4294967296 x1, Nat.mul_left_comm x1 4294967296 y1]
  rw [e]
  generalize x0 * y0 = p
  generalize x0 * y1 = q
  generalize x1 * y0 = r
  generalize x1 * y1 = s
  omega
theorem refTimes_any (x y : Nat) (w : World) (hx : x < 18446744073709551616) (hy : y < 18446744073709551616) :
    Calls Try.prog 17 #[.int .u64 x, .int .u64 y] w fun e w' => e = .returned (wV (x * y)) ∧ Below w.heap.size w w' := by
  have h := times_raw (x % 4294967296) (x / 4294967296) (y % 4294967296) (y / 4294967296) x y w (by omega) (by omega) (by omega) (by omega) (by omega) (by omega)
  rw [prod_digits] at h
  exact h

set_option maxRecDepth 100000 in
set_option maxHeartbeats 4000000 in
theorem plus_raw (a0 a1 a2 a3 b0 b1 b2 b3 : Nat) (w : World) (ha0 : a0 < 4294967296) (ha1 : a1 < 4294967296) (ha2 : a2 < 4294967296) (ha3 : a3 < 4294967296) (hb0 : b0 < 4294967296) (hb1 : b1 < 4294967296) (hb2 : b2 < 4294967296) (hb3 : b3 < 4294967296)
    :
    Calls Try.prog 28 #[.agg #[.int .u64 a0, .int .u64 a1, .int .u64 a2, .int .u64 a3], .agg #[.int .u64 b0, .int .u64 b1, .int .u64 b2, .int .u64 b3]] w fun e w' => e = .returned (wV ((a0 + 4294967296 * a1 + 18446744073709551616 * a2 + 79228162514264337593543950336 * a3 + (b0 + 4294967296 * b1 + 18446744073709551616 * b2 + 79228162514264337593543950336 * b3)) % 340282366920938463463374607431768211456)) ∧ Below w.heap.size w w' := by
  go_enter Try.func28, Try.ntmps28
  go_wp2
  have ba : Blk ((((w.alloc (Obj.cells #[.int .u64 a0, .int .u64 a1, .int .u64 a2, .int .u64 a3] 43)).alloc (Obj.cells #[.int .u64 b0, .int .u64 b1, .int .u64 b2, .int .u64 b3] 43)).alloc (Obj.cells #[.int .u64 0, .int .u64 0, .int .u64 0, .int .u64 0] 43)).alloc (Obj.cells #[.int .u64 0, .int .u64 0, .int .u64 0, .int .u64 0] 43)) w.heap.size 43 #[.int .u64 a0, .int .u64 a1, .int .u64 a2, .int .u64 a3] := (((Blk.new _ _ _).alloc _).alloc _).alloc _
  have bb : Blk ((((w.alloc (Obj.cells #[.int .u64 a0, .int .u64 a1, .int .u64 a2, .int .u64 a3] 43)).alloc (Obj.cells #[.int .u64 b0, .int .u64 b1, .int .u64 b2, .int .u64 b3] 43)).alloc (Obj.cells #[.int .u64 0, .int .u64 0, .int .u64 0, .int .u64 0] 43)).alloc (Obj.cells #[.int .u64 0, .int .u64 0, .int .u64 0, .int .u64 0] 43)) (w.heap.size + 1) 43 #[.int .u64 b0, .int .u64 b1, .int .u64 b2, .int .u64 b3] := ((Blk.new' _ _ _ (by simp)).alloc _).alloc _
  have bk : Blk ((((w.alloc (Obj.cells #[.int .u64 a0, .int .u64 a1, .int .u64 a2, .int .u64 a3] 43)).alloc (Obj.cells #[.int .u64 b0, .int .u64 b1, .int .u64 b2, .int .u64 b3] 43)).alloc (Obj.cells #[.int .u64 0, .int .u64 0, .int .u64 0, .int .u64 0] 43)).alloc (Obj.cells #[.int .u64 0, .int .u64 0, .int .u64 0, .int .u64 0] 43)) (w.heap.size + 1 + 1) 43 #[.int .u64 0, .int .u64 0, .int .u64 0, .int .u64 0] := (Blk.new' _ _ _ (by simp)).alloc _
  have bo : Blk ((((w.alloc (Obj.cells #[.int .u64 a0, .int .u64 a1, .int .u64 a2, .int .u64 a3] 43)).alloc (Obj.cells #[.int .u64 b0, .int .u64 b1, .int .u64 b2, .int .u64 b3] 43)).alloc (Obj.cells #[.int .u64 0, .int .u64 0, .int .u64 0, .int .u64 0] 43)).alloc (Obj.cells #[.int .u64 0, .int .u64 0, .int .u64 0, .int .u64 0] 43)) (w.heap.size + 1 + 1 + 1) 43 #[.int .u64 0, .int .u64 0, .int .u64 0, .int .u64 0] := Blk.new' _ _ _ (by simp)
  have hB : Below w.heap.size w ((((w.alloc (Obj.cells #[.int .u64 a0, .int .u64 a1, .int .u64 a2, .int .u64 a3] 43)).alloc (Obj.cells #[.int .u64 b0, .int .u64 b1, .int .u64 b2, .int .u64 b3] 43)).alloc (Obj.cells #[.int .u64 0, .int .u64 0, .int .u64 0, .int .u64 0] 43)).alloc (Obj.cells #[.int .u64 0, .int .u64 0, .int .u64 0, .int .u64 0] 43)) := (((below1 _ _).alloc (by simp) _).alloc (by simp; omega) _).alloc (by simp; omega) _
  generalize ((((w.alloc (Obj.cells #[.int .u64 a0, .int .u64 a1, .int .u64 a2, .int .u64 a3] 43)).alloc (Obj.cells #[.int .u64 b0, .int .u64 b1, .int .u64 b2, .int .u64 b3] 43)).alloc (Obj.cells #[.int .u64 0, .int .u64 0, .int .u64 0, .int .u64 0] 43)).alloc (Obj.cells #[.int .u64 0, .int .u64 0, .int .u64 0, .int .u64 0] 43)) = W0 at *
  have hgo : w.heap.size < w.heap.size + 1 + 1 + 1 := by omega
  have hgk : w.heap.size < w.heap.size + 1 + 1 := by omega
  have n1 : w.heap.size ≠ w.heap.size + 1 + 1 + 1 := by omega
  have n2 : w.heap.size + 1 ≠ w.heap.size + 1 + 1 + 1 := by omega
  have n3 : w.heap.size + 1 + 1 ≠ w.heap.size + 1 + 1 + 1 := by omega
  generalize w.heap.size + 1 + 1 + 1 = go at *
  generalize w.heap.size + 1 + 1 = gk at *
  generalize w.heap.size + 1 = gb at *
  refine wp_loop_rounds 5 ?_
  have cx := ba.cell 0 _ rfl
  have cy := bb.cell 0 _ rfl
  have co := bo.cell 0 _ rfl
  have fo := bo.frozen 0
  simp only [List.getElem_toArray, List.getElem_cons_zero, List.getElem_cons_succ] at cx cy co
  rw [rounds_succ]
  go_wp2
  go_quiet (fail)
  go_wp2
  clear cx cy co fo
  replace bo := (bo.drewN nq).set_ 0 (.int .u64 (((a0 : Int) + b0) % 4294967296))
  simp only [List.setIfInBounds_toArray, List.set_cons_zero, List.set_cons_succ] at bo
  replace ba := (ba.drewN nq).far (p := ⟨go, 0, none⟩) n1 (.int .u64 (((a0 : Int) + b0) % 4294967296))
  replace bb := (bb.drewN nq).far (p := ⟨go, 0, none⟩) n2 (.int .u64 (((a0 : Int) + b0) % 4294967296))
  replace bk := (bk.drewN nq).far (p := ⟨go, 0, none⟩) n3 (.int .u64 (((a0 : Int) + b0) % 4294967296))
  replace hB := (bdrewN hB nq).setCell (p := ⟨go, 0, none⟩) (by simp; omega) (.int .u64 (((a0 : Int) + b0) % 4294967296))
  generalize (W0.drewN nq).setCell ⟨go, 0, none⟩ (.int .u64 (((a0 : Int) + b0) % 4294967296)) = W1 at *
  obtain ⟨qa0, qb0, ca0, cb0, gc⟩ := dm ((a0 : Int) + b0) (by omega) (by omega)
  have HG0 := Lib.hid gc
  clear gc
  generalize ((a0 : Int) + b0) % 4294967296 = q0 at *
  generalize ((a0 : Int) + b0) / 4294967296 = c0 at *
  have cx := ba.cell 1 _ rfl
  have cy := bb.cell 1 _ rfl
  have co := bo.cell 1 _ rfl
  have fo := bo.frozen 1
  simp only [List.getElem_toArray, List.getElem_cons_zero, List.getElem_cons_succ] at cx cy co
  rw [rounds_succ]
  go_wp2
  go_quiet (fail)
  go_wp2
  clear cx cy co fo
  replace bo := (bo.drewN nq).set_ 1 (.int .u64 (((a1 : Int) + b1 + c0) % 4294967296))
  simp only [List.setIfInBounds_toArray, List.set_cons_zero, List.set_cons_succ] at bo
  replace ba := (ba.drewN nq).far (p := ⟨go, 1, none⟩) n1 (.int .u64 (((a1 : Int) + b1 + c0) % 4294967296))
  replace bb := (bb.drewN nq).far (p := ⟨go, 1, none⟩) n2 (.int .u64 (((a1 : Int) + b1 + c0) % 4294967296))
  replace bk := (bk.drewN nq).far (p := ⟨go, 1, none⟩) n3 (.int .u64 (((a1 : Int) + b1 + c0) % 4294967296))
  replace hB := (bdrewN hB nq).setCell (p := ⟨go, 1, none⟩) (by simp; omega) (.int .u64 (((a1 : Int) + b1 + c0) % 4294967296))
  generalize (W1.drewN nq).setCell ⟨go, 1, none⟩ (.int .u64 (((a1 : Int) + b1 + c0) % 4294967296)) = W2 at *
  obtain ⟨qa1, qb1, ca1, cb1, gc⟩ := dm ((a1 : Int) + b1 + c0) (by omega) (by omega)
  have HG1 := Lib.hid gc
  clear gc
  generalize ((a1 : Int) + b1 + c0) % 4294967296 = q1 at *
  generalize ((a1 : Int) + b1 + c0) / 4294967296 = c1 at *
  have cx := ba.cell 2 _ rfl
  have cy := bb.cell 2 _ rfl
  have co := bo.cell 2 _ rfl
  have fo := bo.frozen 2
  simp only [List.getElem_toArray, List.getElem_cons_zero, List.getElem_cons_succ] at cx cy co
  rw [rounds_succ]
  go_wp2
  go_quiet (fail)
  go_wp2
  clear cx cy co fo
  replace bo := (bo.drewN nq).set_ 2 (.int .u64 (((a2 : Int) + b2 + c1) % 4294967296))
  simp only [List.setIfInBounds_toArray, List.set_cons_zero, List.set_cons_succ] at bo
  replace ba := (ba.drewN nq).far (p := ⟨go, 2, none⟩) n1 (.int .u64 (((a2 : Int) + b2 + c1) % 4294967296))
  replace bb := (bb.drewN nq).far (p := ⟨go, 2, none⟩) n2 (.int .u64 (((a2 : Int) + b2 + c1) % 4294967296))
  replace bk := (bk.drewN nq).far (p := ⟨go, 2, none⟩) n3 (.int .u64 (((a2 : Int) + b2 + c1) % 4294967296))
  replace hB := (bdrewN hB nq).setCell (p := ⟨go, 2, none⟩) (by simp; omega) (.int .u64 (((a2 : Int) + b2 + c1) % 4294967296))
  generalize (W2.drewN nq).setCell ⟨go, 2, none⟩ (.int .u64 (((a2 : Int) + b2 + c1) % 4294967296)) = W3 at *
  obtain ⟨qa2, qb2, ca2, cb2, gc⟩ := dm ((a2 : Int) + b2 + c1) (by omega) (by omega)
  have HG2 := Lib.hid gc
  clear gc
  generalize ((a2 : Int) + b2 + c1) % 4294967296 = q2 at *
  generalize ((a2 : Int) + b2 + c1) / 4294967296 = c2 at *
  have cx := ba.cell 3 _ rfl
  have cy := bb.cell 3 _ rfl
  have co := bo.cell 3 _ rfl
  have fo := bo.frozen 3
  simp only [List.getElem_toArray, List.getElem_cons_zero, List.getElem_cons_succ] at cx cy co
  rw [rounds_succ]
  go_wp2
  go_quiet (fail)
  go_wp2
  clear cx cy co fo
  replace bo := (bo.drewN nq).set_ 3 (.int .u64 (((a3 : Int) + b3 + c2) % 4294967296))
  simp only [List.setIfInBounds_toArray, List.set_cons_zero, List.set_cons_succ] at bo
  replace ba := (ba.drewN nq).far (p := ⟨go, 3, none⟩) n1 (.int .u64 (((a3 : Int) + b3 + c2) % 4294967296))
  replace bb := (bb.drewN nq).far (p := ⟨go, 3, none⟩) n2 (.int .u64 (((a3 : Int) + b3 + c2) % 4294967296))
  replace bk := (bk.drewN nq).far (p := ⟨go, 3, none⟩) n3 (.int .u64 (((a3 : Int) + b3 + c2) % 4294967296))
  replace hB := (bdrewN hB nq).setCell (p := ⟨go, 3, none⟩) (by simp; omega) (.int .u64 (((a3 : Int) + b3 + c2) % 4294967296))
  generalize (W3.drewN nq).setCell ⟨go, 3, none⟩ (.int .u64 (((a3 : Int) + b3 + c2) % 4294967296)) = W4 at *
  obtain ⟨qa3, qb3, ca3, cb3, gc⟩ := dm ((a3 : Int) + b3 + c2) (by omega) (by omega)
  have HG3 := Lib.hid gc
  clear gc
  generalize ((a3 : Int) + b3 + c2) % 4294967296 = q3 at *
  generalize ((a3 : Int) + b3 + c2) / 4294967296 = c3 at *
  have co0 := bo.cell 0 _ rfl
  have co1 := bo.cell 1 _ rfl
  have co2 := bo.cell 2 _ rfl
  have co3 := bo.cell 3 _ rfl
  have ck0 := bk.cell 0 _ rfl
  have fk0 := bk.frozen 0
  have ck1 := bk.cell 1 _ rfl
  have fk1 := bk.frozen 1
  have ck2 := bk.cell 2 _ rfl
  have fk2 := bk.frozen 2
  have ck3 := bk.cell 3 _ rfl
  have fk3 := bk.frozen 3
  simp only [List.getElem_toArray, List.getElem_cons_zero, List.getElem_cons_succ] at co0 co1 co2 co3 ck0 ck1 ck2 ck3
  rw [rounds_succ]
  go_wp2
  have g0 := HG0.out
  have g1 := HG1.out
  have g2 := HG2.out
  have g3 := HG3.out
  exact bodyPost_ret (v := .agg #[.int .u64 q0, .int .u64 q1, .int .u64 q2, .int .u64 q3]) (by simp [results, Try.results28, go_sem, *]) rfl ⟨by unfold wV; exact congrArg _ (agg4_eq (by omega) (by omega) (by omega) (by omega)), (((hB.setCell (by simp; omega) _).setCell (by simp; omega) _).setCell (by simp; omega) _).setCell (by simp; omega) _⟩

theorem plus_any (x y : Nat) (w : World) (hx : x < 340282366920938463463374607431768211456) (hy : y < 340282366920938463463374607431768211456) :
    Calls Try.prog 28 #[wV x, wV y] w fun e w' => e = .returned (wV ((x + y) % 340282366920938463463374607431768211456)) ∧ Below w.heap.size w w' := by
  have := plus_raw (x % 4294967296) (x / 4294967296 % 4294967296) (x / 18446744073709551616 % 4294967296) (x / 79228162514264337593543950336) (y % 4294967296) (y / 4294967296 % 4294967296) (y / 18446744073709551616 % 4294967296) (y / 79228162514264337593543950336) w
    (by omega) (by omega) (by omega) (by omega) (by omega) (by omega) (by omega) (by omega)
  rw [show x % 4294967296 + 4294967296 * (x / 4294967296 % 4294967296) + 18446744073709551616 * (x / 18446744073709551616 % 4294967296) + 79228162514264337593543950336 * (x / 79228162514264337593543950336) = x by omega,
    show y % 4294967296 + 4294967296 * (y / 4294967296 % 4294967296) + 18446744073709551616 * (y / 18446744073709551616 % 4294967296) + 79228162514264337593543950336 * (y / 79228162514264337593543950336) = y by omega] at this
  exact this

set_option maxRecDepth 100000 in
set_option maxHeartbeats 1000000 in
theorem word_raw (a0 a1 a2 a3 : Nat) (w : World) (ha0 : a0 < 4294967296) (ha1 : a1 < 4294967296) :
    Calls Try.prog 27 #[.agg #[.int .u64 a0, .int .u64 a1, .int .u64 a2, .int .u64 a3]] w fun e w' => e = .returned (.tuple #[.int .u64 ((a0 + 4294967296 * a1 : Nat) : Int), .bool (decide (a2 = 0 ∧ a3 = 0))]) ∧ Below w.heap.size w w' := by
  have HV : Hid (((a0 : Int) + (a1 : Int) * 4294967296) = ((a0 + 4294967296 * a1 : Nat) : Int)) := by unfold Hid; omega
  have c0 : (w.alloc (Obj.cells #[.int .u64 a0, .int .u64 a1, .int .u64 a2, .int .u64 a3] 43)).cell? ⟨w.heap.size, 0, none⟩ = some (.int .u64 a0) := by simp
  have c1 : (w.alloc (Obj.cells #[.int .u64 a0, .int .u64 a1, .int .u64 a2, .int .u64 a3] 43)).cell? ⟨w.heap.size, 1, none⟩ = some (.int .u64 a1) := by simp
  have c2 : (w.alloc (Obj.cells #[.int .u64 a0, .int .u64 a1, .int .u64 a2, .int .u64 a3] 43)).cell? ⟨w.heap.size, 2, none⟩ = some (.int .u64 a2) := by simp
  have c3 : (w.alloc (Obj.cells #[.int .u64 a0, .int .u64 a1, .int .u64 a2, .int .u64 a3] 43)).cell? ⟨w.heap.size, 3, none⟩ = some (.int .u64 a3) := by simp
  by_cases h2 : a2 = 0
  · subst h2
    have HD : Hid (((a3 : Int) == 0) = decide (0 = 0 ∧ a3 = 0)) := by unfold Hid; rw [Bool.eq_iff_iff]; simp
    go_enter Try.func27, Try.ntmps27
    go_wp2
    go_quiet (fail)
    go_wp2
    go_ret2
    exact ⟨ret_ib HV.out HD.out, bdrewN (below1 _ _) _⟩
  · have h3 : ((a2 : Int) == 0) = false := by simp; omega
    have HD : Hid (false = decide (a2 = 0 ∧ a3 = 0)) := by simp [Hid, h2]
    go_enter Try.func27, Try.ntmps27
    go_wp2
    go_quiet (fail)
    go_wp2
    go_ret2
    exact ⟨ret_ib HV.out HD.out, bdrewN (below1 _ _) _⟩

theorem word_any (n : Nat) (w : World) (h : n < 340282366920938463463374607431768211456) :
    Calls Try.prog 27 #[wV n] w fun e w' => e = .returned (.tuple #[.int .u64 ((n % 18446744073709551616 : Nat) : Int), .bool (decide (n < 18446744073709551616))]) ∧ Below w.heap.size w w' := by
  have h1 := word_raw (n % 4294967296) (n / 4294967296 % 4294967296) (n / 18446744073709551616 % 4294967296) (n / 79228162514264337593543950336) w (by omega) (by omega)
  have e1 : n % 4294967296 + 4294967296 * (n / 4294967296 % 4294967296) = n % 18446744073709551616 := by omega
  have e2 : decide (n / 18446744073709551616 % 4294967296 = 0 ∧ n / 79228162514264337593543950336 = 0) = decide (n < 18446744073709551616) := by
    rw [Bool.eq_iff_iff]
    simp only [decide_eq_true_eq]
    omega
  rw [e1, e2] at h1
  exact h1
end Go.Proofs.Ytojglionlcjkjaa
