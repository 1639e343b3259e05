/- Walks: the statements BusyPlays, BusyQuick, BusyEnough, BusyFixed. -/
import Derived.Test.YtlnpjelanheijaaW2
namespace Go.Proofs.Ytlnpjelanheijaa
open Go.RowKit

set_option maxRecDepth 100000 in
set_option maxHeartbeats 4000000 in
theorem plays_any (A : Option Addr) (l : List Tk) (c : Nat) (t : Tk) (n : Int) (w : World) (hs : Sl eT 3 w A l) (hm : l.length ≤ 9223372036854775807) (hn : -9223372036854775808 ≤ n) :
    Calls Try.prog 3 #[.slice A l.length c, .agg #[.int .i64 t.cost, .int .i64 t.period, .int .i64 t.dead], .int .i64 n] w fun e w' => e = .returned (.bool true) ∧ Below w.heap.size w w' := by
  have hB := below1 w (Obj.cells #[.int .i64 t.cost, .int .i64 t.period, .int .i64 t.dead] 24)
  have bk := Blk.new w 24 #[.int .i64 t.cost, .int .i64 t.period, .int .i64 t.dead]
  have hs1 := hs.keep hB
  have HF := Lib.hid (fun W => few_any A l.length c n W)
  cases hf : fewB l.length n
  · rw [hf] at HF
    go_enter Try.func3, Try.ntmps3
    go_wp2_with (first | (go_at_call 7; (with_reducible refine (HF.out _).mono ?_); rintro e w2 ⟨rfl, rfl⟩) | (go_at_call 8; (with_reducible refine (awake_any _).mono ?_); rintro e w3 ⟨rfl, hb⟩))
    go_ret
    exact ⟨rfl, bstep hB (Nat.le_refl _) hb⟩
  · rw [hf] at HF
    have HL := Lib.hid (fun W (hW : Sl eT 3 W A l) => length_any A l c n W hW hm hn)
    have HB := Lib.hid (fun W (hW : Sl eT 3 W A l) => bad_any A l c n W hW hm)
    have HR := Lib.hid (fun W (hW : Sl eT 3 W A l) => response_any A l c t n W hW hm hn)
    have HA := Lib.hid (fun W (hW : Sl eT 3 W A l) => qAll_any A l c W hW hm)
    have HT := Lib.hid (fun W => qRight_any t W)
    unfold numV at HL HB HR
    have HX : Hid (okN l n = true → lenV l n = fixV 0 l n) := fun h => by unfold lenV; rw [h]; rfl
    have HY : Hid (okN l n = true → rightT t = true → respV l t n = fixV t.cost l n) := fun h h2 => by unfold respV; rw [h, h2]; rfl
    have HQ1 : Hid (okN l n = true → ∀ W, Sl eT 3 W A l → Calls Try.prog 13 #[.slice A l.length c, .int .i64 n] W fun e w' => e = .returned (.int .i64 (lenV l n : Nat)) ∧ W = w') := fun h W hW => by
      obtain ⟨ha, h0, h1⟩ := okN_get h
      rw [HX.out h]
      exact qLength_yes A l c n W hW ha h0 h1
    have HQ2 : Hid (okN l n = true → ∀ W, Sl eT 3 W A l → Calls Try.prog 14 #[.slice A l.length c, .int .i64 n] W fun e w' => e = .returned (.int .i64 (badV l n : Nat)) ∧ W = w') := fun h W hW => by
      obtain ⟨ha, h0, h1⟩ := okN_get h
      obtain ⟨u, rfl⟩ := Int.eq_ofNat_of_zero_le h0
      exact qBad_yes A l c u W hW ha (by omega)
    have HQ3 : Hid (okN l n = true → rightT t = true → ∀ W, Sl eT 3 W A l → Calls Try.prog 16 #[.slice A l.length c, .agg #[.int .i64 t.cost, .int .i64 t.period, .int .i64 t.dead], .int .i64 n] W fun e w' => e = .returned (.int .i64 (respV l t n : Nat)) ∧ Below W.heap.size W w') := fun h h2 W hW => by
      obtain ⟨ha, h0, h1⟩ := okN_get h
      rw [HY.out h h2]
      exact qResponse_yes A l c t n W hW ha h2 h0 h1
    have HZ1 : Hid (okN l n = false → lenV l n = 0 ∧ badV l n = 0 ∧ respV l t n = 0) := fun h => by unfold lenV badV respV; rw [h]; exact ⟨rfl, rfl, rfl⟩
    have HZ2 : Hid (rightT t = false → respV l t n = 0) := fun h => by unfold respV; rw [h, Bool.and_false]; rfl
    have HZ3 : Hid (l.length = 0 → lenV l n = 0) := fun h => by
      obtain rfl := List.eq_nil_of_length_eq_zero h
      unfold lenV
      split
      · exact fix_nil n
      · rfl
    have HO : Hid (okN l n = (allT l && decide (0 ≤ n ∧ n ≤ 1048576))) := rfl
    clear HX HY
    generalize lenV l n = q1 at *
    generalize badV l n = q2 at *
    generalize respV l t n = q3 at *
    generalize okN l n = ok at *
    go_enter Try.func3, Try.ntmps3
    go_wp2_with (go_at_call 7; (with_reducible refine (HF.out _).mono ?_); rintro e w2 ⟨rfl, rfl⟩)
    generalize w.alloc (Obj.cells #[.int .i64 t.cost, .int .i64 t.period, .int .i64 t.dead] 24) = w1 at *
    refine (HL.out _ hs1).mono ?_
    rintro e w2 ⟨rfl, hb⟩
    replace hs1 := hs1.keep hb
    replace bk := bk.keep hb
    replace hB := bstep hB (Nat.le_refl _) hb
    clear hb
    go_wp2_with fail
    refine (HB.out _ hs1).mono ?_
    rintro e w3 ⟨rfl, hb⟩
    replace hs1 := hs1.keep hb
    replace bk := bk.keep hb
    replace hB := bstep hB (Nat.le_refl _) hb
    clear hb
    have c0 := bk.cell 0 (.int .i64 t.cost) rfl
    have c1 := bk.cell 1 (.int .i64 t.period) rfl
    have c2 := bk.cell 2 (.int .i64 t.dead) rfl
    go_wp2_with fail
    refine (HR.out _ hs1).mono ?_
    rintro e w4 ⟨rfl, hb⟩
    replace hs1 := hs1.keep hb
    replace bk := bk.keep hb
    replace hB := bstep hB (Nat.le_refl _) hb
    clear hb c0 c1 c2 HL HB HR
    have c0 := bk.cell 0 (.int .i64 t.cost) rfl
    have c1 := bk.cell 1 (.int .i64 t.period) rfl
    have c2 := bk.cell 2 (.int .i64 t.dead) rfl
    by_cases hn0 : 0 ≤ n
    · by_cases hn1 : n ≤ 1048576
      · have hdc : decide (0 ≤ n ∧ n ≤ 1048576) = true := decide_eq_true ⟨hn0, hn1⟩
        cases ha : allT l
        · rw [ha] at HA HO
          obtain ⟨rfl, rfl, rfl⟩ := HZ1.out (by rw [HO.out]; simp <;> omega)
          by_cases hl : l.length = 0
          · have hl2 : ((l.length : Int) == 0) = true := by rw [hl]; rfl
            clear hl
            go_wp2_with (first | (go_at_call 12; (with_reducible refine (HA.out _ hs1).mono ?_); rintro e w5 ⟨rfl, hb⟩; replace hs1 := hs1.keep hb; replace hB := bstep hB (Nat.le_refl _) hb; replace c0 := kcell hb c0; replace c1 := kcell hb c1; replace c2 := kcell hb c2; clear hb) | (go_at_call 15; (with_reducible refine (HT.out _).mono ?_); rintro e w5 ⟨rfl, hb⟩; replace hs1 := hs1.keep hb; replace hB := bstep hB (Nat.le_refl _) hb; replace c0 := kcell hb c0; replace c1 := kcell hb c1; replace c2 := kcell hb c2; clear hb) | (go_at_call 8; (with_reducible refine (awake_any _).mono ?_); rintro e w5 ⟨rfl, hb⟩; replace hs1 := hs1.keep hb; replace hB := bstep hB (Nat.le_refl _) hb; replace c0 := kcell hb c0; replace c1 := kcell hb c1; replace c2 := kcell hb c2; clear hb))
            go_ret
            exact ⟨rfl, hB⟩
          · have hl2 : ((l.length : Int) == 0) = false := by simp; exact fun e => hl (by rw [e]; rfl)
            go_wp2_with (first | (go_at_call 12; (with_reducible refine (HA.out _ hs1).mono ?_); rintro e w5 ⟨rfl, hb⟩; replace hs1 := hs1.keep hb; replace hB := bstep hB (Nat.le_refl _) hb; replace c0 := kcell hb c0; replace c1 := kcell hb c1; replace c2 := kcell hb c2; clear hb) | (go_at_call 15; (with_reducible refine (HT.out _).mono ?_); rintro e w5 ⟨rfl, hb⟩; replace hs1 := hs1.keep hb; replace hB := bstep hB (Nat.le_refl _) hb; replace c0 := kcell hb c0; replace c1 := kcell hb c1; replace c2 := kcell hb c2; clear hb) | (go_at_call 8; (with_reducible refine (awake_any _).mono ?_); rintro e w5 ⟨rfl, hb⟩; replace hs1 := hs1.keep hb; replace hB := bstep hB (Nat.le_refl _) hb; replace c0 := kcell hb c0; replace c1 := kcell hb c1; replace c2 := kcell hb c2; clear hb))
            go_ret
            exact ⟨rfl, hB⟩
        · rw [ha, hdc] at HO
          rw [ha] at HA
          obtain rfl : ok = true := HO.out
          replace HQ1 := Lib.hid (HQ1.out rfl)
          replace HQ2 := Lib.hid (HQ2.out rfl)
          cases hr : rightT t
          · rw [hr] at HT
            obtain rfl := HZ2.out hr
            by_cases hl : l.length = 0
            · have hl2 : ((l.length : Int) == 0) = true := by rw [hl]; rfl
              obtain rfl := HZ3.out hl
              clear hl
              go_wp2_with (first | (go_at_call 12; (with_reducible refine (HA.out _ hs1).mono ?_); rintro e w5 ⟨rfl, hb⟩; replace hs1 := hs1.keep hb; replace hB := bstep hB (Nat.le_refl _) hb; replace c0 := kcell hb c0; replace c1 := kcell hb c1; replace c2 := kcell hb c2; clear hb) | (go_at_call 15; (with_reducible refine (HT.out _).mono ?_); rintro e w5 ⟨rfl, hb⟩; replace hs1 := hs1.keep hb; replace hB := bstep hB (Nat.le_refl _) hb; replace c0 := kcell hb c0; replace c1 := kcell hb c1; replace c2 := kcell hb c2; clear hb) | (go_at_call 8; (with_reducible refine (awake_any _).mono ?_); rintro e w5 ⟨rfl, hb⟩; replace hs1 := hs1.keep hb; replace hB := bstep hB (Nat.le_refl _) hb; replace c0 := kcell hb c0; replace c1 := kcell hb c1; replace c2 := kcell hb c2; clear hb) | (go_at_call 13; (with_reducible refine (HQ1.out _ hs1).mono ?_); rintro e w5 ⟨rfl, rfl⟩) | (go_at_call 14; (with_reducible refine (HQ2.out _ hs1).mono ?_); rintro e w5 ⟨rfl, rfl⟩))
              go_ret
              exact ⟨rfl, hB⟩
            · have hl2 : ((l.length : Int) == 0) = false := by simp; exact fun e => hl (by rw [e]; rfl)
              go_wp2_with (first | (go_at_call 12; (with_reducible refine (HA.out _ hs1).mono ?_); rintro e w5 ⟨rfl, hb⟩; replace hs1 := hs1.keep hb; replace hB := bstep hB (Nat.le_refl _) hb; replace c0 := kcell hb c0; replace c1 := kcell hb c1; replace c2 := kcell hb c2; clear hb) | (go_at_call 15; (with_reducible refine (HT.out _).mono ?_); rintro e w5 ⟨rfl, hb⟩; replace hs1 := hs1.keep hb; replace hB := bstep hB (Nat.le_refl _) hb; replace c0 := kcell hb c0; replace c1 := kcell hb c1; replace c2 := kcell hb c2; clear hb) | (go_at_call 8; (with_reducible refine (awake_any _).mono ?_); rintro e w5 ⟨rfl, hb⟩; replace hs1 := hs1.keep hb; replace hB := bstep hB (Nat.le_refl _) hb; replace c0 := kcell hb c0; replace c1 := kcell hb c1; replace c2 := kcell hb c2; clear hb) | (go_at_call 13; (with_reducible refine (HQ1.out _ hs1).mono ?_); rintro e w5 ⟨rfl, rfl⟩) | (go_at_call 14; (with_reducible refine (HQ2.out _ hs1).mono ?_); rintro e w5 ⟨rfl, rfl⟩))
              go_ret
              exact ⟨rfl, hB⟩
          · rw [hr] at HT
            replace HQ3 := Lib.hid (HQ3.out rfl hr)
            by_cases hl : l.length = 0
            · have hl2 : ((l.length : Int) == 0) = true := by rw [hl]; rfl
              obtain rfl := HZ3.out hl
              clear hl
              go_wp2_with (first | (go_at_call 12; (with_reducible refine (HA.out _ hs1).mono ?_); rintro e w5 ⟨rfl, hb⟩; replace hs1 := hs1.keep hb; replace hB := bstep hB (Nat.le_refl _) hb; replace c0 := kcell hb c0; replace c1 := kcell hb c1; replace c2 := kcell hb c2; clear hb) | (go_at_call 15; (with_reducible refine (HT.out _).mono ?_); rintro e w5 ⟨rfl, hb⟩; replace hs1 := hs1.keep hb; replace hB := bstep hB (Nat.le_refl _) hb; replace c0 := kcell hb c0; replace c1 := kcell hb c1; replace c2 := kcell hb c2; clear hb) | (go_at_call 8; (with_reducible refine (awake_any _).mono ?_); rintro e w5 ⟨rfl, hb⟩; replace hs1 := hs1.keep hb; replace hB := bstep hB (Nat.le_refl _) hb; replace c0 := kcell hb c0; replace c1 := kcell hb c1; replace c2 := kcell hb c2; clear hb) | (go_at_call 13; (with_reducible refine (HQ1.out _ hs1).mono ?_); rintro e w5 ⟨rfl, rfl⟩) | (go_at_call 14; (with_reducible refine (HQ2.out _ hs1).mono ?_); rintro e w5 ⟨rfl, rfl⟩) | (go_at_call 16; (with_reducible refine (HQ3.out _ hs1).mono ?_); rintro e w5 ⟨rfl, hb⟩; replace hs1 := hs1.keep hb; replace hB := bstep hB (Nat.le_refl _) hb; replace c0 := kcell hb c0; replace c1 := kcell hb c1; replace c2 := kcell hb c2; clear hb))
              go_ret
              exact ⟨rfl, hB⟩
            · have hl2 : ((l.length : Int) == 0) = false := by simp; exact fun e => hl (by rw [e]; rfl)
              go_wp2_with (first | (go_at_call 12; (with_reducible refine (HA.out _ hs1).mono ?_); rintro e w5 ⟨rfl, hb⟩; replace hs1 := hs1.keep hb; replace hB := bstep hB (Nat.le_refl _) hb; replace c0 := kcell hb c0; replace c1 := kcell hb c1; replace c2 := kcell hb c2; clear hb) | (go_at_call 15; (with_reducible refine (HT.out _).mono ?_); rintro e w5 ⟨rfl, hb⟩; replace hs1 := hs1.keep hb; replace hB := bstep hB (Nat.le_refl _) hb; replace c0 := kcell hb c0; replace c1 := kcell hb c1; replace c2 := kcell hb c2; clear hb) | (go_at_call 8; (with_reducible refine (awake_any _).mono ?_); rintro e w5 ⟨rfl, hb⟩; replace hs1 := hs1.keep hb; replace hB := bstep hB (Nat.le_refl _) hb; replace c0 := kcell hb c0; replace c1 := kcell hb c1; replace c2 := kcell hb c2; clear hb) | (go_at_call 13; (with_reducible refine (HQ1.out _ hs1).mono ?_); rintro e w5 ⟨rfl, rfl⟩) | (go_at_call 14; (with_reducible refine (HQ2.out _ hs1).mono ?_); rintro e w5 ⟨rfl, rfl⟩) | (go_at_call 16; (with_reducible refine (HQ3.out _ hs1).mono ?_); rintro e w5 ⟨rfl, hb⟩; replace hs1 := hs1.keep hb; replace hB := bstep hB (Nat.le_refl _) hb; replace c0 := kcell hb c0; replace c1 := kcell hb c1; replace c2 := kcell hb c2; clear hb))
              go_ret
              exact ⟨rfl, hB⟩
      · have hdc : decide (0 ≤ n ∧ n ≤ 1048576) = false := decide_eq_false (by omega)
        rw [hdc] at HO
        obtain ⟨rfl, rfl, rfl⟩ := HZ1.out (by rw [HO.out]; simp <;> omega)
        cases ha : allT l
        · rw [ha] at HA
          by_cases hl : l.length = 0
          · have hl2 : ((l.length : Int) == 0) = true := by rw [hl]; rfl
            clear hl
            go_wp2_with (first | (go_at_call 12; (with_reducible refine (HA.out _ hs1).mono ?_); rintro e w5 ⟨rfl, hb⟩; replace hs1 := hs1.keep hb; replace hB := bstep hB (Nat.le_refl _) hb; replace c0 := kcell hb c0; replace c1 := kcell hb c1; replace c2 := kcell hb c2; clear hb) | (go_at_call 15; (with_reducible refine (HT.out _).mono ?_); rintro e w5 ⟨rfl, hb⟩; replace hs1 := hs1.keep hb; replace hB := bstep hB (Nat.le_refl _) hb; replace c0 := kcell hb c0; replace c1 := kcell hb c1; replace c2 := kcell hb c2; clear hb) | (go_at_call 8; (with_reducible refine (awake_any _).mono ?_); rintro e w5 ⟨rfl, hb⟩; replace hs1 := hs1.keep hb; replace hB := bstep hB (Nat.le_refl _) hb; replace c0 := kcell hb c0; replace c1 := kcell hb c1; replace c2 := kcell hb c2; clear hb))
            go_ret
            exact ⟨rfl, hB⟩
          · have hl2 : ((l.length : Int) == 0) = false := by simp; exact fun e => hl (by rw [e]; rfl)
            go_wp2_with (first | (go_at_call 12; (with_reducible refine (HA.out _ hs1).mono ?_); rintro e w5 ⟨rfl, hb⟩; replace hs1 := hs1.keep hb; replace hB := bstep hB (Nat.le_refl _) hb; replace c0 := kcell hb c0; replace c1 := kcell hb c1; replace c2 := kcell hb c2; clear hb) | (go_at_call 15; (with_reducible refine (HT.out _).mono ?_); rintro e w5 ⟨rfl, hb⟩; replace hs1 := hs1.keep hb; replace hB := bstep hB (Nat.le_refl _) hb; replace c0 := kcell hb c0; replace c1 := kcell hb c1; replace c2 := kcell hb c2; clear hb) | (go_at_call 8; (with_reducible refine (awake_any _).mono ?_); rintro e w5 ⟨rfl, hb⟩; replace hs1 := hs1.keep hb; replace hB := bstep hB (Nat.le_refl _) hb; replace c0 := kcell hb c0; replace c1 := kcell hb c1; replace c2 := kcell hb c2; clear hb))
            go_ret
            exact ⟨rfl, hB⟩
        · rw [ha] at HA
          cases hr : rightT t
          · rw [hr] at HT
            by_cases hl : l.length = 0
            · have hl2 : ((l.length : Int) == 0) = true := by rw [hl]; rfl
              clear hl
              go_wp2_with (first | (go_at_call 12; (with_reducible refine (HA.out _ hs1).mono ?_); rintro e w5 ⟨rfl, hb⟩; replace hs1 := hs1.keep hb; replace hB := bstep hB (Nat.le_refl _) hb; replace c0 := kcell hb c0; replace c1 := kcell hb c1; replace c2 := kcell hb c2; clear hb) | (go_at_call 15; (with_reducible refine (HT.out _).mono ?_); rintro e w5 ⟨rfl, hb⟩; replace hs1 := hs1.keep hb; replace hB := bstep hB (Nat.le_refl _) hb; replace c0 := kcell hb c0; replace c1 := kcell hb c1; replace c2 := kcell hb c2; clear hb) | (go_at_call 8; (with_reducible refine (awake_any _).mono ?_); rintro e w5 ⟨rfl, hb⟩; replace hs1 := hs1.keep hb; replace hB := bstep hB (Nat.le_refl _) hb; replace c0 := kcell hb c0; replace c1 := kcell hb c1; replace c2 := kcell hb c2; clear hb))
              go_ret
              exact ⟨rfl, hB⟩
            · have hl2 : ((l.length : Int) == 0) = false := by simp; exact fun e => hl (by rw [e]; rfl)
              go_wp2_with (first | (go_at_call 12; (with_reducible refine (HA.out _ hs1).mono ?_); rintro e w5 ⟨rfl, hb⟩; replace hs1 := hs1.keep hb; replace hB := bstep hB (Nat.le_refl _) hb; replace c0 := kcell hb c0; replace c1 := kcell hb c1; replace c2 := kcell hb c2; clear hb) | (go_at_call 15; (with_reducible refine (HT.out _).mono ?_); rintro e w5 ⟨rfl, hb⟩; replace hs1 := hs1.keep hb; replace hB := bstep hB (Nat.le_refl _) hb; replace c0 := kcell hb c0; replace c1 := kcell hb c1; replace c2 := kcell hb c2; clear hb) | (go_at_call 8; (with_reducible refine (awake_any _).mono ?_); rintro e w5 ⟨rfl, hb⟩; replace hs1 := hs1.keep hb; replace hB := bstep hB (Nat.le_refl _) hb; replace c0 := kcell hb c0; replace c1 := kcell hb c1; replace c2 := kcell hb c2; clear hb))
              go_ret
              exact ⟨rfl, hB⟩
          · rw [hr] at HT
            by_cases hl : l.length = 0
            · have hl2 : ((l.length : Int) == 0) = true := by rw [hl]; rfl
              clear hl
              go_wp2_with (first | (go_at_call 12; (with_reducible refine (HA.out _ hs1).mono ?_); rintro e w5 ⟨rfl, hb⟩; replace hs1 := hs1.keep hb; replace hB := bstep hB (Nat.le_refl _) hb; replace c0 := kcell hb c0; replace c1 := kcell hb c1; replace c2 := kcell hb c2; clear hb) | (go_at_call 15; (with_reducible refine (HT.out _).mono ?_); rintro e w5 ⟨rfl, hb⟩; replace hs1 := hs1.keep hb; replace hB := bstep hB (Nat.le_refl _) hb; replace c0 := kcell hb c0; replace c1 := kcell hb c1; replace c2 := kcell hb c2; clear hb) | (go_at_call 8; (with_reducible refine (awake_any _).mono ?_); rintro e w5 ⟨rfl, hb⟩; replace hs1 := hs1.keep hb; replace hB := bstep hB (Nat.le_refl _) hb; replace c0 := kcell hb c0; replace c1 := kcell hb c1; replace c2 := kcell hb c2; clear hb))
              go_ret
              exact ⟨rfl, hB⟩
            · have hl2 : ((l.length : Int) == 0) = false := by simp; exact fun e => hl (by rw [e]; rfl)
              go_wp2_with (first | (go_at_call 12; (with_reducible refine (HA.out _ hs1).mono ?_); rintro e w5 ⟨rfl, hb⟩; replace hs1 := hs1.keep hb; replace hB := bstep hB (Nat.le_refl _) hb; replace c0 := kcell hb c0; replace c1 := kcell hb c1; replace c2 := kcell hb c2; clear hb) | (go_at_call 15; (with_reducible refine (HT.out _).mono ?_); rintro e w5 ⟨rfl, hb⟩; replace hs1 := hs1.keep hb; replace hB := bstep hB (Nat.le_refl _) hb; replace c0 := kcell hb c0; replace c1 := kcell hb c1; replace c2 := kcell hb c2; clear hb) | (go_at_call 8; (with_reducible refine (awake_any _).mono ?_); rintro e w5 ⟨rfl, hb⟩; replace hs1 := hs1.keep hb; replace hB := bstep hB (Nat.le_refl _) hb; replace c0 := kcell hb c0; replace c1 := kcell hb c1; replace c2 := kcell hb c2; clear hb))
              go_ret
              exact ⟨rfl, hB⟩
    · have hdc : decide (0 ≤ n ∧ n ≤ 1048576) = false := decide_eq_false (by omega)
      rw [hdc] at HO
      obtain ⟨rfl, rfl, rfl⟩ := HZ1.out (by rw [HO.out]; simp <;> omega)
      cases ha : allT l
      · rw [ha] at HA
        by_cases hl : l.length = 0
        · have hl2 : ((l.length : Int) == 0) = true := by rw [hl]; rfl
          clear hl
          go_wp2_with (first | (go_at_call 12; (with_reducible refine (HA.out _ hs1).mono ?_); rintro e w5 ⟨rfl, hb⟩; replace hs1 := hs1.keep hb; replace hB := bstep hB (Nat.le_refl _) hb; replace c0 := kcell hb c0; replace c1 := kcell hb c1; replace c2 := kcell hb c2; clear hb) | (go_at_call 15; (with_reducible refine (HT.out _).mono ?_); rintro e w5 ⟨rfl, hb⟩; replace hs1 := hs1.keep hb; replace hB := bstep hB (Nat.le_refl _) hb; replace c0 := kcell hb c0; replace c1 := kcell hb c1; replace c2 := kcell hb c2; clear hb) | (go_at_call 8; (with_reducible refine (awake_any _).mono ?_); rintro e w5 ⟨rfl, hb⟩; replace hs1 := hs1.keep hb; replace hB := bstep hB (Nat.le_refl _) hb; replace c0 := kcell hb c0; replace c1 := kcell hb c1; replace c2 := kcell hb c2; clear hb))
          go_ret
          exact ⟨rfl, hB⟩
        · have hl2 : ((l.length : Int) == 0) = false := by simp; exact fun e => hl (by rw [e]; rfl)
          go_wp2_with (first | (go_at_call 12; (with_reducible refine (HA.out _ hs1).mono ?_); rintro e w5 ⟨rfl, hb⟩; replace hs1 := hs1.keep hb; replace hB := bstep hB (Nat.le_refl _) hb; replace c0 := kcell hb c0; replace c1 := kcell hb c1; replace c2 := kcell hb c2; clear hb) | (go_at_call 15; (with_reducible refine (HT.out _).mono ?_); rintro e w5 ⟨rfl, hb⟩; replace hs1 := hs1.keep hb; replace hB := bstep hB (Nat.le_refl _) hb; replace c0 := kcell hb c0; replace c1 := kcell hb c1; replace c2 := kcell hb c2; clear hb) | (go_at_call 8; (with_reducible refine (awake_any _).mono ?_); rintro e w5 ⟨rfl, hb⟩; replace hs1 := hs1.keep hb; replace hB := bstep hB (Nat.le_refl _) hb; replace c0 := kcell hb c0; replace c1 := kcell hb c1; replace c2 := kcell hb c2; clear hb))
          go_ret
          exact ⟨rfl, hB⟩
      · rw [ha] at HA
        cases hr : rightT t
        · rw [hr] at HT
          by_cases hl : l.length = 0
          · have hl2 : ((l.length : Int) == 0) = true := by rw [hl]; rfl
            clear hl
            go_wp2_with (first | (go_at_call 12; (with_reducible refine (HA.out _ hs1).mono ?_); rintro e w5 ⟨rfl, hb⟩; replace hs1 := hs1.keep hb; replace hB := bstep hB (Nat.le_refl _) hb; replace c0 := kcell hb c0; replace c1 := kcell hb c1; replace c2 := kcell hb c2; clear hb) | (go_at_call 15; (with_reducible refine (HT.out _).mono ?_); rintro e w5 ⟨rfl, hb⟩; replace hs1 := hs1.keep hb; replace hB := bstep hB (Nat.le_refl _) hb; replace c0 := kcell hb c0; replace c1 := kcell hb c1; replace c2 := kcell hb c2; clear hb) | (go_at_call 8; (with_reducible refine (awake_any _).mono ?_); rintro e w5 ⟨rfl, hb⟩; replace hs1 := hs1.keep hb; replace hB := bstep hB (Nat.le_refl _) hb; replace c0 := kcell hb c0; replace c1 := kcell hb c1; replace c2 := kcell hb c2; clear hb))
            go_ret
            exact ⟨rfl, hB⟩
          · have hl2 : ((l.length : Int) == 0) = false := by simp; exact fun e => hl (by rw [e]; rfl)
            go_wp2_with (first | (go_at_call 12; (with_reducible refine (HA.out _ hs1).mono ?_); rintro e w5 ⟨rfl, hb⟩; replace hs1 := hs1.keep hb; replace hB := bstep hB (Nat.le_refl _) hb; replace c0 := kcell hb c0; replace c1 := kcell hb c1; replace c2 := kcell hb c2; clear hb) | (go_at_call 15; (with_reducible refine (HT.out _).mono ?_); rintro e w5 ⟨rfl, hb⟩; replace hs1 := hs1.keep hb; replace hB := bstep hB (Nat.le_refl _) hb; replace c0 := kcell hb c0; replace c1 := kcell hb c1; replace c2 := kcell hb c2; clear hb) | (go_at_call 8; (with_reducible refine (awake_any _).mono ?_); rintro e w5 ⟨rfl, hb⟩; replace hs1 := hs1.keep hb; replace hB := bstep hB (Nat.le_refl _) hb; replace c0 := kcell hb c0; replace c1 := kcell hb c1; replace c2 := kcell hb c2; clear hb))
            go_ret
            exact ⟨rfl, hB⟩
        · rw [hr] at HT
          by_cases hl : l.length = 0
          · have hl2 : ((l.length : Int) == 0) = true := by rw [hl]; rfl
            clear hl
            go_wp2_with (first | (go_at_call 12; (with_reducible refine (HA.out _ hs1).mono ?_); rintro e w5 ⟨rfl, hb⟩; replace hs1 := hs1.keep hb; replace hB := bstep hB (Nat.le_refl _) hb; replace c0 := kcell hb c0; replace c1 := kcell hb c1; replace c2 := kcell hb c2; clear hb) | (go_at_call 15; (with_reducible refine (HT.out _).mono ?_); rintro e w5 ⟨rfl, hb⟩; replace hs1 := hs1.keep hb; replace hB := bstep hB (Nat.le_refl _) hb; replace c0 := kcell hb c0; replace c1 := kcell hb c1; replace c2 := kcell hb c2; clear hb) | (go_at_call 8; (with_reducible refine (awake_any _).mono ?_); rintro e w5 ⟨rfl, hb⟩; replace hs1 := hs1.keep hb; replace hB := bstep hB (Nat.le_refl _) hb; replace c0 := kcell hb c0; replace c1 := kcell hb c1; replace c2 := kcell hb c2; clear hb))
            go_ret
            exact ⟨rfl, hB⟩
          · have hl2 : ((l.length : Int) == 0) = false := by simp; exact fun e => hl (by rw [e]; rfl)
            go_wp2_with (first | (go_at_call 12; (with_reducible refine (HA.out _ hs1).mono ?_); rintro e w5 ⟨rfl, hb⟩; replace hs1 := hs1.keep hb; replace hB := bstep hB (Nat.le_refl _) hb; replace c0 := kcell hb c0; replace c1 := kcell hb c1; replace c2 := kcell hb c2; clear hb) | (go_at_call 15; (with_reducible refine (HT.out _).mono ?_); rintro e w5 ⟨rfl, hb⟩; replace hs1 := hs1.keep hb; replace hB := bstep hB (Nat.le_refl _) hb; replace c0 := kcell hb c0; replace c1 := kcell hb c1; replace c2 := kcell hb c2; clear hb) | (go_at_call 8; (with_reducible refine (awake_any _).mono ?_); rintro e w5 ⟨rfl, hb⟩; replace hs1 := hs1.keep hb; replace hB := bstep hB (Nat.le_refl _) hb; replace c0 := kcell hb c0; replace c1 := kcell hb c1; replace c2 := kcell hb c2; clear hb))
            go_ret
            exact ⟨rfl, hB⟩
end Go.Proofs.Ytlnpjelanheijaa
