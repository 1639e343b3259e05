/- Walks: the document's numbers of four digits. -/
import Derived.Test.YtojglionlcjkjaaW2
namespace Go.Proofs.Ytojglionlcjkjaa
open Go.RowKit

/-- digits of 32 bits -/
def wV (n : Nat) : Value := .agg #[.int .u64 ((n % 4294967296 : Nat) : Int), .int .u64 ((n / 4294967296 % 4294967296 : Nat) : Int), .int .u64 ((n / 18446744073709551616 % 4294967296 : Nat) : Int), .int .u64 ((n / 79228162514264337593543950336 : Nat) : Int)]
theorem agg4_eq {a b c d a' b' c' d' : Int} (h1 : a = a') (h2 : b = b') (h3 : c = c') (h4 : d = d') : Value.agg #[.int .u64 a, .int .u64 b, .int .u64 c, .int .u64 d] = Value.agg #[.int .u64 a', .int .u64 b', .int .u64 c', .int .u64 d'] := by rw [h1, h2, h3, h4]

set_option maxHeartbeats 1000000 in
theorem refOf_any (n : Nat) (w : World) (hn : n < 18446744073709551616) :
    Calls Try.prog 29 #[.int .u64 n] w fun e w' => e = .returned (.agg #[.int .u64 ((n % 4294967296 : Nat) : Int), .int .u64 ((n / 4294967296 : Nat) : Int), .int .u64 0, .int .u64 0]) ∧ Below w.heap.size w w' := by
  go_enter Try.func29, Try.ntmps29
  go_wp2
  exact bodyPost_ret (v := .agg #[.int .u64 ((n % 4294967296 : Nat) : Int), .int .u64 ((n / 4294967296 : Nat) : Int), .int .u64 0, .int .u64 0]) (by simp [results, Try.results29, go_sem]) rfl ⟨rfl, below1 _ _⟩

theorem half_lt {a b : Nat} (ha : a < 4294967296) (hb : b < 4294967296) : a * b ≤ 18446744065119617025 := by
  have := Nat.mul_le_mul (show a ≤ 4294967295 by omega) (show b ≤ 4294967295 by omega)
  omega
theorem mul_wrap {a b : Nat} (ha : a < 4294967296) (hb : b < 4294967296) : IntKind.u64.wrap ((a : Int) * (b : Int)) = ((a * b : Nat) : Int) := by
  have := half_lt ha hb
  rw [IntKind.wrap_u64, ← Int.natCast_mul]
  generalize a * b = p at *
  omega

theorem dm (s : Int) (h0 : 0 ≤ s) (h1 : s < 18446744073709551616) : 0 ≤ s % 4294967296 ∧ s % 4294967296 < 4294967296 ∧ 0 ≤ s / 4294967296 ∧ s / 4294967296 < 4294967296 ∧ s = s % 4294967296 + 4294967296 * (s / 4294967296) := by omega

set_option maxRecDepth 100000 in
set_option maxHeartbeats 4000000 in
theorem times_raw (x0 x1 y0 y1 x y : Nat) (w : World) (hx0 : x0 < 4294967296) (hx1 : x1 < 4294967296) (hy0 : y0 < 4294967296) (hy1 : y1 < 4294967296) (hx : x = x0 + x1 * 4294967296) (hy : y = y0 + y1 * 4294967296) :
    Calls Try.prog 17 #[.int .u64 x, .int .u64 y] w fun e w' => e = .returned (wV (x0 * y0 + 4294967296 * (x0 * y1 + x1 * y0) + 18446744073709551616 * (x1 * y1))) ∧ Below w.heap.size w w' := by
  have hOx : Hid (∀ W, Calls Try.prog 29 #[.int .u64 x] W fun e w' => e = .returned (.agg #[.int .u64 (x0 : Int), .int .u64 (x1 : Int), .int .u64 0, .int .u64 0]) ∧ Below W.heap.size W w') := fun W => by
    have h := refOf_any x W (by omega)
    rw [show x % 4294967296 = x0 by omega, show x / 4294967296 = x1 by omega] at h
    exact h
  have hOy : Hid (∀ W, Calls Try.prog 29 #[.int .u64 y] W fun e w' => e = .returned (.agg #[.int .u64 (y0 : Int), .int .u64 (y1 : Int), .int .u64 0, .int .u64 0]) ∧ Below W.heap.size W w') := fun W => by
    have h := refOf_any y W (by omega)
    rw [show y % 4294967296 = y0 by omega, show y / 4294967296 = y1 by omega] at h
    exact h
  have m00 := mul_wrap hx0 hy0
  have m01 := mul_wrap hx0 hy1
  have m10 := mul_wrap hx1 hy0
  have m11 := mul_wrap hx1 hy1
  have l00 := half_lt hx0 hy0
  have l01 := half_lt hx0 hy1
  have l10 := half_lt hx1 hy0
  have l11 := half_lt hx1 hy1
  generalize x0 * y0 = p00 at *
  generalize x0 * y1 = p01 at *
  generalize x1 * y0 = p10 at *
  generalize x1 * y1 = p11 at *
  have bk : Blk (w.alloc (Obj.cells #[.int .u64 0, .int .u64 0, .int .u64 0, .int .u64 0] 43)) w.heap.size 43 #[.int .u64 0, .int .u64 0, .int .u64 0, .int .u64 0] := Blk.new _ _ _
  have hB := below1 w (Obj.cells #[.int .u64 0, .int .u64 0, .int .u64 0, .int .u64 0] 43)
  clear hx hy
  go_enter Try.func17, Try.ntmps17
  go_wp2_with (first | (go_at_call 29; (with_reducible refine (hOx.out _).mono ?_); rintro e w2 ⟨rfl, hb⟩; replace bk := bk.keep hb; replace hB := bstep hB (Nat.le_refl _) hb; clear hb) | (go_at_call 29; (with_reducible refine (hOy.out _).mono ?_); rintro e w3 ⟨rfl, hb⟩; replace bk := bk.keep hb; replace hB := bstep hB (Nat.le_refl _) hb; clear hb))
  have bx : Blk (((w3.alloc (Obj.cells #[.int .u64 x0, .int .u64 x1, .int .u64 0, .int .u64 0] 43)).alloc (Obj.cells #[.int .u64 y0, .int .u64 y1, .int .u64 0, .int .u64 0] 43)).alloc (Obj.cells #[.int .u64 0, .int .u64 0, .int .u64 0, .int .u64 0] 43)) w3.heap.size 43 #[.int .u64 x0, .int .u64 x1, .int .u64 0, .int .u64 0] := ((Blk.new _ _ _).alloc _).alloc _
  have by_ : Blk (((w3.alloc (Obj.cells #[.int .u64 x0, .int .u64 x1, .int .u64 0, .int .u64 0] 43)).alloc (Obj.cells #[.int .u64 y0, .int .u64 y1, .int .u64 0, .int .u64 0] 43)).alloc (Obj.cells #[.int .u64 0, .int .u64 0, .int .u64 0, .int .u64 0] 43)) (w3.heap.size + 1) 43 #[.int .u64 y0, .int .u64 y1, .int .u64 0, .int .u64 0] := (Blk.new' _ _ _ (by simp)).alloc _
  have bo : Blk (((w3.alloc (Obj.cells #[.int .u64 x0, .int .u64 x1, .int .u64 0, .int .u64 0] 43)).alloc (Obj.cells #[.int .u64 y0, .int .u64 y1, .int .u64 0, .int .u64 0] 43)).alloc (Obj.cells #[.int .u64 0, .int .u64 0, .int .u64 0, .int .u64 0] 43)) (w3.heap.size + 1 + 1) 43 #[.int .u64 0, .int .u64 0, .int .u64 0, .int .u64 0] := Blk.new' _ _ _ (by simp)
  replace bk := ((bk.alloc (Obj.cells #[.int .u64 x0, .int .u64 x1, .int .u64 0, .int .u64 0] 43)).alloc (Obj.cells #[.int .u64 y0, .int .u64 y1, .int .u64 0, .int .u64 0] 43)).alloc (Obj.cells #[.int .u64 0, .int .u64 0, .int .u64 0, .int .u64 0] 43)
  have hs := hB.size

  replace hB := ((hB.alloc hB.size (Obj.cells #[.int .u64 x0, .int .u64 x1, .int .u64 0, .int .u64 0] 43)).alloc (by simp; omega) (Obj.cells #[.int .u64 y0, .int .u64 y1, .int .u64 0, .int .u64 0] 43)).alloc (by simp; omega) (Obj.cells #[.int .u64 0, .int .u64 0, .int .u64 0, .int .u64 0] 43)
  generalize (((w3.alloc (Obj.cells #[.int .u64 x0, .int .u64 x1, .int .u64 0, .int .u64 0] 43)).alloc (Obj.cells #[.int .u64 y0, .int .u64 y1, .int .u64 0, .int .u64 0] 43)).alloc (Obj.cells #[.int .u64 0, .int .u64 0, .int .u64 0, .int .u64 0] 43)) = W1 at *
  have hgx : w.heap.size < w3.heap.size + 1 + 1 := by omega
  have n1 : w3.heap.size ≠ w3.heap.size + 1 + 1 := by omega
  have n2 : w3.heap.size + 1 ≠ w3.heap.size + 1 + 1 := by omega
  have n3 : w.heap.size ≠ w3.heap.size + 1 + 1 := by omega
  generalize w3.heap.size + 1 + 1 = go at *
  generalize w3.heap.size + 1 = gy at *
  generalize w3.heap.size = gx at *
  refine wp_loop_rounds 3 ?_
  rw [rounds_succ]
  go_wp2
  refine wp_loop_rounds 3 ?_
  have cx := bx.cell 0 _ rfl
  have cy := by_.cell 0 _ rfl
  have co := bo.cell 0 _ rfl
  have fo := bo.frozen 0
  simp only [List.getElem_toArray, List.getElem_cons_zero, List.getElem_cons_succ] at cx cy co
  rw [rounds_succ]
  go_wp2
  go_quiet (fail)
  go_wp2
  clear cx cy co fo
  replace bo := (bo.drewN nq).set_ 0 (.int .u64 ((p00 : Int) % 4294967296))
  simp only [List.setIfInBounds_toArray, List.set_cons_zero, List.set_cons_succ] at bo
  replace bx := (bx.drewN nq).far (p := ⟨go, 0, none⟩) n1 (.int .u64 ((p00 : Int) % 4294967296))
  replace by_ := (by_.drewN nq).far (p := ⟨go, 0, none⟩) n2 (.int .u64 ((p00 : Int) % 4294967296))
  replace bk := (bk.drewN nq).far (p := ⟨go, 0, none⟩) n3 (.int .u64 ((p00 : Int) % 4294967296))
  replace hB := (bdrewN hB nq).setCell (p := ⟨go, 0, none⟩) (by simp; omega) (.int .u64 ((p00 : Int) % 4294967296))
  generalize (W1.drewN nq).setCell ⟨go, 0, none⟩ (.int .u64 ((p00 : Int) % 4294967296)) = W2 at *
  obtain ⟨qa0, qb0, ca0, cb0, gc⟩ := dm (p00 : Int) (by omega) (by omega)
  have HG0 := Lib.hid gc
  clear gc
  generalize (p00 : Int) % 4294967296 = q0 at *
  generalize (p00 : Int) / 4294967296 = c0 at *
  have cx := bx.cell 0 _ rfl
  have cy := by_.cell 1 _ rfl
  have co := bo.cell 1 _ rfl
  have fo := bo.frozen 1
  simp only [List.getElem_toArray, List.getElem_cons_zero, List.getElem_cons_succ] at cx cy co
  rw [rounds_succ]
  go_wp2
  go_quiet (fail)
  go_wp2
  clear cx cy co fo
  replace bo := (bo.drewN nq).set_ 1 (.int .u64 (((p01 : Int) + c0) % 4294967296))
  simp only [List.setIfInBounds_toArray, List.set_cons_zero, List.set_cons_succ] at bo
  replace bx := (bx.drewN nq).far (p := ⟨go, 1, none⟩) n1 (.int .u64 (((p01 : Int) + c0) % 4294967296))
  replace by_ := (by_.drewN nq).far (p := ⟨go, 1, none⟩) n2 (.int .u64 (((p01 : Int) + c0) % 4294967296))
  replace bk := (bk.drewN nq).far (p := ⟨go, 1, none⟩) n3 (.int .u64 (((p01 : Int) + c0) % 4294967296))
  replace hB := (bdrewN hB nq).setCell (p := ⟨go, 1, none⟩) (by simp; omega) (.int .u64 (((p01 : Int) + c0) % 4294967296))
  generalize (W2.drewN nq).setCell ⟨go, 1, none⟩ (.int .u64 (((p01 : Int) + c0) % 4294967296)) = W3 at *
  obtain ⟨qa1, qb1, ca1, cb1, gc⟩ := dm ((p01 : Int) + c0) (by omega) (by omega)
  have HG1 := Lib.hid gc
  clear gc
  generalize ((p01 : Int) + c0) % 4294967296 = q1 at *
  generalize ((p01 : Int) + c0) / 4294967296 = c1 at *
  have c2 := bo.cell 2 _ rfl
  have f2 := bo.frozen 2
  simp only [List.getElem_toArray, List.getElem_cons_zero, List.getElem_cons_succ] at c2
  rw [rounds_succ]
  go_wp2
  clear c2 f2
  replace bo := (bo).set_ 2 (.int .u64 (c1))
  simp only [List.setIfInBounds_toArray, List.set_cons_zero, List.set_cons_succ] at bo
  replace bx := (bx).far (p := ⟨go, 2, none⟩) n1 (.int .u64 (c1))
  replace by_ := (by_).far (p := ⟨go, 2, none⟩) n2 (.int .u64 (c1))
  replace bk := (bk).far (p := ⟨go, 2, none⟩) n3 (.int .u64 (c1))
  replace hB := (hB).setCell (p := ⟨go, 2, none⟩) (by simp; omega) (.int .u64 (c1))
  generalize W3.setCell ⟨go, 2, none⟩ (.int .u64 (c1)) = W4 at *
  rw [rounds_succ]
  go_wp2
  refine wp_loop_rounds 3 ?_
  have cx := bx.cell 1 _ rfl
  have cy := by_.cell 0 _ rfl
  have co := bo.cell 1 _ rfl
  have fo := bo.frozen 1
  simp only [List.getElem_toArray, List.getElem_cons_zero, List.getElem_cons_succ] at cx cy co
  rw [rounds_succ]
  go_wp2
  go_quiet (fail)
  go_wp2
  clear cx cy co fo
  replace bo := (bo.drewN nq).set_ 1 (.int .u64 (((p10 : Int) + q1) % 4294967296))
  simp only [List.setIfInBounds_toArray, List.set_cons_zero, List.set_cons_succ] at bo
  replace bx := (bx.drewN nq).far (p := ⟨go, 1, none⟩) n1 (.int .u64 (((p10 : Int) + q1) % 4294967296))
  replace by_ := (by_.drewN nq).far (p := ⟨go, 1, none⟩) n2 (.int .u64 (((p10 : Int) + q1) % 4294967296))
  replace bk := (bk.drewN nq).far (p := ⟨go, 1, none⟩) n3 (.int .u64 (((p10 : Int) + q1) % 4294967296))
  replace hB := (bdrewN hB nq).setCell (p := ⟨go, 1, none⟩) (by simp; omega) (.int .u64 (((p10 : Int) + q1) % 4294967296))
  generalize (W4.drewN nq).setCell ⟨go, 1, none⟩ (.int .u64 (((p10 : Int) + q1) % 4294967296)) = W5 at *
  obtain ⟨qa2, qb2, ca2, cb2, gc⟩ := dm ((p10 : Int) + q1) (by omega) (by omega)
  have HG2 := Lib.hid gc
  clear gc
  generalize ((p10 : Int) + q1) % 4294967296 = q2 at *
  generalize ((p10 : Int) + q1) / 4294967296 = c2 at *
  have cx := bx.cell 1 _ rfl
  have cy := by_.cell 1 _ rfl
  have co := bo.cell 2 _ rfl
  have fo := bo.frozen 2
  simp only [List.getElem_toArray, List.getElem_cons_zero, List.getElem_cons_succ] at cx cy co
  rw [rounds_succ]
  go_wp2
  go_quiet (fail)
  go_wp2
  clear cx cy co fo
  replace bo := (bo.drewN nq).set_ 2 (.int .u64 (((p11 : Int) + c1 + c2) % 4294967296))
  simp only [List.setIfInBounds_toArray, List.set_cons_zero, List.set_cons_succ] at bo
  replace bx := (bx.drewN nq).far (p := ⟨go, 2, none⟩) n1 (.int .u64 (((p11 : Int) + c1 + c2) % 4294967296))
  replace by_ := (by_.drewN nq).far (p := ⟨go, 2, none⟩) n2 (.int .u64 (((p11 : Int) + c1 + c2) % 4294967296))
  replace bk := (bk.drewN nq).far (p := ⟨go, 2, none⟩) n3 (.int .u64 (((p11 : Int) + c1 + c2) % 4294967296))
  replace hB := (bdrewN hB nq).setCell (p := ⟨go, 2, none⟩) (by simp; omega) (.int .u64 (((p11 : Int) + c1 + c2) % 4294967296))
  generalize (W5.drewN nq).setCell ⟨go, 2, none⟩ (.int .u64 (((p11 : Int) + c1 + c2) % 4294967296)) = W6 at *
  obtain ⟨qa3, qb3, ca3, cb3, gc⟩ := dm ((p11 : Int) + c1 + c2) (by omega) (by omega)
  have HG3 := Lib.hid gc
  clear gc
  generalize ((p11 : Int) + c1 + c2) % 4294967296 = q3 at *
  generalize ((p11 : Int) + c1 + c2) / 4294967296 = c3 at *
  have c2 := bo.cell 3 _ rfl
  have f2 := bo.frozen 3
  simp only [List.getElem_toArray, List.getElem_cons_zero, List.getElem_cons_succ] at c2
  rw [rounds_succ]
  go_wp2
  clear c2 f2
  replace bo := (bo).set_ 3 (.int .u64 (c3))
  simp only [List.setIfInBounds_toArray, List.set_cons_zero, List.set_cons_succ] at bo
  replace bx := (bx).far (p := ⟨go, 3, none⟩) n1 (.int .u64 (c3))
  replace by_ := (by_).far (p := ⟨go, 3, none⟩) n2 (.int .u64 (c3))
  replace bk := (bk).far (p := ⟨go, 3, none⟩) n3 (.int .u64 (c3))
  replace hB := (hB).setCell (p := ⟨go, 3, none⟩) (by simp; omega) (.int .u64 (c3))
  generalize W6.setCell ⟨go, 3, none⟩ (.int .u64 (c3)) = W7 at *
  have co0 := bo.cell 0 _ rfl
  have co1 := bo.cell 1 _ rfl
  have co2 := bo.cell 2 _ rfl
  have co3 := bo.cell 3 _ rfl
  have ck0 := bk.cell 0 _ rfl
  have fk0 := bk.frozen 0
  have ck1 := bk.cell 1 _ rfl
  have fk1 := bk.frozen 1
  have ck2 := bk.cell 2 _ rfl
  have fk2 := bk.frozen 2
  have ck3 := bk.cell 3 _ rfl
  have fk3 := bk.frozen 3
  simp only [List.getElem_toArray, List.getElem_cons_zero, List.getElem_cons_succ] at co0 co1 co2 co3 ck0 ck1 ck2 ck3
  rw [rounds_succ]
  go_wp2
  have g0 := HG0.out
  have g1 := HG1.out
  have g2 := HG2.out
  have g3 := HG3.out
  exact bodyPost_ret (v := .agg #[.int .u64 (q0), .int .u64 (q2), .int .u64 (q3), .int .u64 (c3)]) (by simp [results, Try.results17, go_sem, *]) rfl ⟨by unfold wV; exact congrArg _ (agg4_eq (by omega) (by omega) (by omega) (by omega)), (((hB.setCell (by simp) _).setCell (by simp) _).setCell (by simp) _).setCell (by simp) _⟩

-- MORE
end Go.Proofs.Ytojglionlcjkjaa
