/- Walks: which of two fractions is less; the sum of many; the chapter's example. -/
import Derived.Test.YtojglionlcjkjaaW5
import Derived.Test.YtojglionlcjkjaaApp
namespace Go.Proofs.Ytojglionlcjkjaa
open Go.RowKit

/-! which is less -/
def cmpI (a b : Nat) : Int := if a < b then -1 else if b < a then 1 else 0
theorem cmp_lt {a b : Nat} (h : a < b) : cmpI a b = -1 := by unfold cmpI; rw [if_pos h]
theorem cmp_gt {a b : Nat} (h : b < a) : cmpI a b = 1 := by unfold cmpI; rw [if_neg (by omega), if_pos h]
theorem cmp_eq {a b : Nat} (h : a = b) : cmpI a b = 0 := by unfold cmpI; rw [if_neg (by omega), if_neg (by omega)]

set_option maxRecDepth 100000 in
set_option maxHeartbeats 2000000 in
theorem compare_yes (an ad bn bd : Nat) (w : World) (h1 : an < 18446744073709551616) (h2 : ad < 18446744073709551616) (h3 : bn < 18446744073709551616) (h4 : bd < 18446744073709551616) (p : 0 < ad) (q : 0 < bd) :
    Calls Try.prog 18 #[.agg #[.int .u64 an, .int .u64 ad], .agg #[.int .u64 bn, .int .u64 bd]] w fun e w' => e = .returned (.int .i64 (cmpI (an * bd) (bn * ad))) ∧ Below w.heap.size w w' := by
  have hm1 := Lib.hid (fun W => mul64_any an bd W h1 h4)
  have hm2 := Lib.hid (fun W => mul64_any bn ad W h3 h2)
  have HX := Lib.hid (Nat.div_add_mod (an * bd) 18446744073709551616)
  have HY := Lib.hid (Nat.div_add_mod (bn * ad) 18446744073709551616)
  have l1 := Nat.mod_lt (an * bd) (show 0 < 18446744073709551616 by omega)
  have l2 := Nat.mod_lt (bn * ad) (show 0 < 18446744073709551616 by omega)
  generalize an * bd / 18446744073709551616 = x1 at *
  generalize an * bd % 18446744073709551616 = x0 at *
  generalize bn * ad / 18446744073709551616 = y1 at *
  generalize bn * ad % 18446744073709551616 = y0 at *
  generalize an * bd = X at *
  generalize bn * ad = Y at *
  have d1 : ((ad : Int) == 0) = false := by simp; omega
  have d2 : ((bd : Int) == 0) = false := by simp; omega
  by_cases o1 : x1 < y1
  · have HC : Hid (cmpI X Y = -1) := cmp_lt (by have := HX.out; have := HY.out; omega)
    have t1 : (x1 : Int) < (y1 : Int) := by omega
    go_enter Try.func18, Try.ntmps18
    go_wp2_with (first | (go_at_call 30; (with_reducible refine (hm1.out _).mono ?_); rintro e w2 ⟨rfl, rfl⟩) | (go_at_call 30; (with_reducible refine (hm2.out _).mono ?_); rintro e w3 ⟨rfl, rfl⟩))
    go_ret
    exact ⟨ret_int HC.out.symm, (below1 _ _).alloc (by simp) _⟩
  · by_cases o2 : x1 = y1
    · subst o2
      by_cases o3 : x0 < y0
      · have HC : Hid (cmpI X Y = -1) := cmp_lt (by have := HX.out; have := HY.out; omega)
        have t1 : (x0 : Int) < (y0 : Int) := by omega
        go_enter Try.func18, Try.ntmps18
        go_wp2_with (first | (go_at_call 30; (with_reducible refine (hm1.out _).mono ?_); rintro e w2 ⟨rfl, rfl⟩) | (go_at_call 30; (with_reducible refine (hm2.out _).mono ?_); rintro e w3 ⟨rfl, rfl⟩))
        go_ret
        exact ⟨ret_int HC.out.symm, (below1 _ _).alloc (by simp) _⟩
      · by_cases o4 : x0 = y0
        · subst o4
          have HC : Hid (cmpI X Y = 0) := cmp_eq (by have := HX.out; have := HY.out; omega)
          clear o3
          go_enter Try.func18, Try.ntmps18
          go_wp2_with (first | (go_at_call 30; (with_reducible refine (hm1.out _).mono ?_); rintro e w2 ⟨rfl, rfl⟩) | (go_at_call 30; (with_reducible refine (hm2.out _).mono ?_); rintro e w3 ⟨rfl, rfl⟩))
          go_ret
          exact ⟨ret_int HC.out.symm, (below1 _ _).alloc (by simp) _⟩
        · have HC : Hid (cmpI X Y = 1) := cmp_gt (by have := HX.out; have := HY.out; omega)
          have t1 : ((x0 : Int) == (y0 : Int)) = false := by simp; omega
          have t2 : ¬ (x0 : Int) < (y0 : Int) := by omega
          clear o4
          go_enter Try.func18, Try.ntmps18
          go_wp2_with (first | (go_at_call 30; (with_reducible refine (hm1.out _).mono ?_); rintro e w2 ⟨rfl, rfl⟩) | (go_at_call 30; (with_reducible refine (hm2.out _).mono ?_); rintro e w3 ⟨rfl, rfl⟩))
          go_ret
          exact ⟨ret_int HC.out.symm, (below1 _ _).alloc (by simp) _⟩
    · have HC : Hid (cmpI X Y = 1) := cmp_gt (by have := HX.out; have := HY.out; omega)
      have t1 : ((x1 : Int) == (y1 : Int)) = false := by simp; omega
      have t2 : ¬ (x1 : Int) < (y1 : Int) := by omega
      clear o2
      go_enter Try.func18, Try.ntmps18
      go_wp2_with (first | (go_at_call 30; (with_reducible refine (hm1.out _).mono ?_); rintro e w2 ⟨rfl, rfl⟩) | (go_at_call 30; (with_reducible refine (hm2.out _).mono ?_); rintro e w3 ⟨rfl, rfl⟩))
      go_ret
      exact ⟨ret_int HC.out.symm, (below1 _ _).alloc (by simp) _⟩

set_option maxHeartbeats 1000000 in
theorem compare_no (an ad bn bd : Nat) (w : World) (h : ad = 0 ∨ bd = 0) :
    Calls Try.prog 18 #[.agg #[.int .u64 an, .int .u64 ad], .agg #[.int .u64 bn, .int .u64 bd]] w fun e w' => e = .returned (.int .i64 0) ∧ Below w.heap.size w w' := by
  by_cases h0 : ad = 0
  · subst h0
    go_enter Try.func18, Try.ntmps18
    go_wp2
    go_ret
    exact ⟨rfl, (below1 _ _).alloc (by simp) _⟩
  · obtain rfl : bd = 0 := by omega
    have d1 : ((ad : Int) == 0) = false := by simp; omega
    go_enter Try.func18, Try.ntmps18
    go_wp2
    go_ret
    exact ⟨rfl, (below1 _ _).alloc (by simp) _⟩

/-! the sum of many -/
structure Rt where
  num : Nat
  den : Nat
def eR (r : Rt) : List Value := [.int .u64 r.num, .int .u64 r.den]
theorem eR_ok : EncOk eR 2 := ⟨fun _ => rfl, fun x u hu => by simp [eR] at hu; rcases hu with rfl | rfl <;> rfl⟩
theorem Sl.rt_at {w : World} {A : Option Addr} {xs : List Rt} {i : Nat} (h : Sl eR 2 w A xs) (hi : i < xs.length) :
    ∃ b off, A = some ⟨b, off, none⟩ ∧ w.cell? ⟨b, off + i * 2, none⟩ = some (.int .u64 xs[i].num) ∧ w.cell? ⟨b, off + i * 2 + 1, none⟩ = some (.int .u64 xs[i].den) := by
  obtain ⟨b, off, hA, hc⟩ := h.at_ hi
  exact ⟨b, off, hA, by simpa using hc 0 _ (show (eR xs[i])[0]? = some (.int .u64 xs[i].num) from rfl), by simpa [Nat.add_assoc] using hc 1 _ (show (eR xs[i])[1]? = some (.int .u64 xs[i].den) from rfl)⟩
def sumR (n d : Nat) : List Rt → Rat3
  | [] => ⟨n, d, 0⟩
  | r :: rs => if (addR n d r.num r.den).err = 0 then sumR (addR n d r.num r.den).num (addR n d r.num r.den).den rs else ⟨0, 0, (addR n d r.num r.den).err⟩
theorem sumR_at {n d : Nat} {l : List Rt} {k : Nat} (hk : k < l.length) : sumR n d (l.drop k) =
    if (addR n d l[k].num l[k].den).err = 0 then sumR (addR n d l[k].num l[k].den).num (addR n d l[k].num l[k].den).den (l.drop (k + 1)) else ⟨0, 0, (addR n d l[k].num l[k].den).err⟩ := by
  rw [List.drop_eq_getElem_cons hk, sumR]

set_option maxRecDepth 100000 in
set_option maxHeartbeats 4000000 in
theorem sum_any (A : Option Addr) (l : List Rt) (c : Nat) (w : World) (hs : Sl eR 2 w A l) (hl : l.length ≤ 9223372036854775807) (hb : ∀ r ∈ l, r.num < 18446744073709551616 ∧ r.den < 18446744073709551616) :
    Calls Try.prog 11 #[.slice A l.length c] w fun e w' => e = .returned (r3V (sumR 0 1 l)) ∧ Below w.heap.size w w' := by
  have HB := Lib.hid hb
  clear hb
  go_enter Try.func11, Try.ntmps11
  go_wp2
  have bk : Blk ((w.alloc (Obj.cells #[.int .u64 0, .int .u64 0] 25)).alloc (Obj.cells #[.int .u64 0, .int .u64 1] 25)) w.heap.size 25 #[.int .u64 0, .int .u64 0] := (Blk.new _ _ _).alloc _
  have bs : Blk ((w.alloc (Obj.cells #[.int .u64 0, .int .u64 0] 25)).alloc (Obj.cells #[.int .u64 0, .int .u64 1] 25)) (w.heap.size + 1) 25 #[.int .u64 (0 : Nat), .int .u64 (1 : Nat)] := Blk.new' _ _ _ (by simp)
  have hB : Below w.heap.size w ((w.alloc (Obj.cells #[.int .u64 0, .int .u64 0] 25)).alloc (Obj.cells #[.int .u64 0, .int .u64 1] 25)) := (below1 _ _).alloc (by simp) _
  generalize ((w.alloc (Obj.cells #[.int .u64 0, .int .u64 0] 25)).alloc (Obj.cells #[.int .u64 0, .int .u64 1] 25)) = W0 at *
  go_loopw [12] (fun vi wr => ∃ (k n d : Nat), k ≤ l.length ∧ vi = .int .i64 k ∧ n < 18446744073709551616 ∧ d < 18446744073709551616 ∧ Hid (sumR 0 1 l = sumR n d (l.drop k)) ∧ Blk wr w.heap.size 25 #[.int .u64 0, .int .u64 0] ∧ Blk wr (w.heap.size + 1) 25 #[.int .u64 n, .int .u64 d] ∧ Below w.heap.size w wr) (fun i _ => l.length - (intOf i).toNat)
  case atStart => exact ⟨0, 0, 1, Nat.zero_le _, rfl, by omega, by omega, rfl, bk, bs, hB⟩
  case round =>
    clear bk bs hB
    obtain ⟨k, n, d, hk, rfl, hn, hd, HS, bk, bs, hB⟩ := hrel
    by_cases hlt : k < l.length
    · obtain ⟨b, off, rfl, c0, c1⟩ := Sl.rt_at (hs.keep hB) hlt
      obtain ⟨r1, r2⟩ := HB.out _ (List.getElem_mem hlt)
      have HT := Lib.hid (sumR_at (n := n) (d := d) hlt)
      have hA : Hid (∀ W, Calls Try.prog 7 #[.agg #[.int .u64 n, .int .u64 d], .agg #[.int .u64 l[k].num, .int .u64 l[k].den]] W fun e w' => e = .returned (.tuple #[.agg #[.int .u64 ((addR n d l[k].num l[k].den).num : Int), .int .u64 ((addR n d l[k].num l[k].den).den : Int)], .int .i64 ((addR n d l[k].num l[k].den).err : Int)]) ∧ Below W.heap.size W w') := fun W => add_any n d l[k].num l[k].den W hn hd r1 r2
      obtain ⟨t1, t2⟩ := addR_lt n d l[k].num l[k].den
      have k0 : (0 : Int) ≤ (k : Int) := by omega
      have k1 : (k : Int) < (l.length : Int) := by omega
      generalize addR n d l[k].num l[k].den = t at *
      obtain ⟨tn, td, te⟩ := t
      simp only at HT hA t1 t2
      generalize l[k].num = ln at *
      generalize l[k].den = ld at *
      have s0 := bs.cell 0 _ rfl
      have s1 := bs.cell 1 _ rfl
      simp only [List.getElem_toArray, List.getElem_cons_zero, List.getElem_cons_succ] at s0 s1
      have hlt1 : w.heap.size + 1 < wr.heap.size := bs.lt
      by_cases he : te = 0
      · subst he
        have HS2 : Hid (sumR 0 1 l = sumR tn td (l.drop (k + 1))) := by unfold Hid; rw [HS.out, HT.out, if_pos rfl]
        go_wp2_with (go_at_call 7; (with_reducible refine (hA.out _).mono ?_); rintro e w5 ⟨rfl, hb⟩; replace bk := (bk.alloc _).keep hb; replace bs := (bs.alloc _).keep hb; replace hB := bstep (hB.alloc hB.size _) (Nat.le_refl _) hb; clear hb c0 c1 s0 s1 hlt1; have s0 := bs.cell 0 _ rfl; have s1 := bs.cell 1 _ rfl; have f0 := bs.frozen 0; have f1 := bs.frozen 1; have q0 := bk.cell 0 _ rfl; have q1 := bk.cell 1 _ rfl; have g0 := bk.frozen 0; have g1 := bk.frozen 1; have hlt5 : w.heap.size + 1 < w5.heap.size := bs.lt; have hlt6 : w.heap.size < w5.heap.size := bk.lt; (simp only [List.getElem_toArray, List.getElem_cons_zero, List.getElem_cons_succ] at s0 s1 q0 q1))
        go_roundw
        case rel =>
          have hX := (hB.setCell (p := ⟨w.heap.size + 1, 0, none⟩) (by simp) (.int .u64 tn)).setCell (p := ⟨w.heap.size + 1, 1, none⟩) (by simp) (.int .u64 td)
          refine ⟨k + 1, tn, td, by omega, by go_num, t1, t2, HS2.out, ((bk.far (p := ⟨w.heap.size + 1, 0, none⟩) (by simp) _).far (p := ⟨w.heap.size + 1, 1, none⟩) (by simp) _).alloc _, ?_, hX.alloc hX.size _⟩
          have := ((bs.set_ 0 (.int .u64 tn)).set_ 1 (.int .u64 td)).alloc (Obj.cells #[.int .u64 tn, .int .u64 td] 25)
          simpa only [List.setIfInBounds_toArray, List.set_cons_zero, List.set_cons_succ] using this
        case measure => simp [intOf]; omega
      · have HS2 : Hid (sumR 0 1 l = ⟨0, 0, te⟩) := by unfold Hid; rw [HS.out, HT.out, if_neg he]
        have he1 : ((te : Int) != 0) = true := by simp; omega
        go_wp2_with (go_at_call 7; (with_reducible refine (hA.out _).mono ?_); rintro e w5 ⟨rfl, hb⟩; replace bk := (bk.alloc _).keep hb; replace bs := (bs.alloc _).keep hb; replace hB := bstep (hB.alloc hB.size _) (Nat.le_refl _) hb; clear hb c0 c1 s0 s1 hlt1; have s0 := bs.cell 0 _ rfl; have s1 := bs.cell 1 _ rfl; have f0 := bs.frozen 0; have f1 := bs.frozen 1; have q0 := bk.cell 0 _ rfl; have q1 := bk.cell 1 _ rfl; have g0 := bk.frozen 0; have g1 := bk.frozen 1; have hlt5 : w.heap.size + 1 < w5.heap.size := bs.lt; have hlt6 : w.heap.size < w5.heap.size := bk.lt; (simp only [List.getElem_toArray, List.getElem_cons_zero, List.getElem_cons_succ] at s0 s1 q0 q1))
        have hX := (hB.setCell (p := ⟨w.heap.size, 0, none⟩) (by simp) (.int .u64 0)).setCell (p := ⟨w.heap.size, 1, none⟩) (by simp) (.int .u64 0)
        exact bodyPost_ret (v := .tuple #[.agg #[.int .u64 0, .int .u64 0], .int .i64 te]) (by simp [results, Try.results11, go_sem, *]) rfl ⟨by rw [HS2.out]; rfl, hX.alloc hX.size _⟩
    · obtain rfl : k = l.length := by omega
      have HS2 : Hid (sumR 0 1 l = ⟨n, d, 0⟩) := by unfold Hid; rw [HS.out, List.drop_length, sumR]
      have s0 := bs.cell 0 _ rfl
      have s1 := bs.cell 1 _ rfl
      have q0 := bk.cell 0 _ rfl
      have q1 := bk.cell 1 _ rfl
      have g0 := bk.frozen 0
      have g1 := bk.frozen 1
      simp only [List.getElem_toArray, List.getElem_cons_zero, List.getElem_cons_succ] at s0 s1 q0 q1
      go_wp2
      exact bodyPost_ret (v := .tuple #[.agg #[.int .u64 n, .int .u64 d], .int .i64 0]) (by simp [results, Try.results11, go_sem, *]) rfl ⟨by rw [HS2.out]; rfl, (hB.setCell (by simp) _).setCell (by simp) _⟩

theorem sum_ex : sumR 0 1 [⟨1, 2⟩, ⟨1, 3⟩, ⟨1, 6⟩] = ⟨1, 1, 0⟩ := by kernel_rfl
theorem Sl.three {w : World} {g : Nat} {t : TypeId} {a b c : Rt} (h : Blk w g t #[.int .u64 a.num, .int .u64 a.den, .int .u64 b.num, .int .u64 b.den, .int .u64 c.num, .int .u64 c.den]) : Sl eR 2 w (some ⟨g, 0, none⟩) [a, b, c] := fun _ => by
  refine ⟨g, 0, rfl, fun i x j u hx hu => ?_⟩
  rw [Nat.zero_add]
  refine h.cell _ _ ?_
  have hj : j < 2 := by have := (List.getElem?_eq_some_iff.1 hu).1; simpa [eR] using this
  match i, hx with
  | 0, hx => simp at hx; subst hx; match j, hj, hu with | 0, _, hu => exact hu | 1, _, hu => exact hu
  | 1, hx => simp at hx; subst hx; match j, hj, hu with | 0, _, hu => exact hu | 1, _, hu => exact hu
  | 2, hx => simp at hx; subst hx; match j, hj, hu with | 0, _, hu => exact hu | 1, _, hu => exact hu

end Go.Proofs.Ytojglionlcjkjaa
