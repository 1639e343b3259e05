/- Walks: which calls may be, by the document: the four numbers. -/
import Derived.Test.YtjojnfnjekjjnaaDoorW3
namespace Go.Proofs.YtjojnfnjekjjnaaDoor
open Go.RowKit

theorem name_ne (n : Nat) (h : n ≤ 19) : (nameS n).toList.isEmpty = false := by
  rcases (show n = 0 ∨ n = 1 ∨ n = 2 ∨ n = 3 ∨ n = 4 ∨ n = 5 ∨ n = 6 ∨ n = 7 ∨ n = 8 ∨ n = 9 ∨ n = 10 ∨ n = 11 ∨ n = 12 ∨ n = 13 ∨ n = 14 ∨ n = 15 ∨ n = 16 ∨ n = 17 ∨ n = 18 ∨ n = 19 by omega) with rfl | rfl | rfl | rfl | rfl | rfl | rfl | rfl | rfl | rfl | rfl | rfl | rfl | rfl | rfl | rfl | rfl | rfl | rfl | rfl
  all_goals decide +kernel

/-- the number of a place -/
def numI (a b c d : Int) (i : Nat) : Int := match i with | 0 => a | 1 => b | 2 => c | _ => d
def mostN (i : Nat) : Int := if i ≤ 1 then 255 else 1048575
def okI (op a b c d : Int) (i : Nat) : Bool := numOk (numI a b c d i) (hasI op i) (mostN i)
theorem rightC_all {op a b c d : Int} (h : 0 ≤ op ∧ op ≤ 19) (hk : ∀ i, i < 4 → okI op a b c d i = true) : rightC op a b c d = true := by
  have h0 := hk 0 (by omega); have h1 := hk 1 (by omega); have h2 := hk 2 (by omega); have h3 := hk 3 (by omega)
  simp only [okI, numI, mostN] at h0 h1 h2 h3
  unfold rightC
  simp at h0 h1 h2 h3 ⊢
  simp [h, h0, h1, h2, h3]
theorem rightC_not {op a b c d : Int} (i : Nat) (hi : i < 4) (hk : okI op a b c d i = false) : rightC op a b c d = false := by
  unfold rightC
  rcases (show i = 0 ∨ i = 1 ∨ i = 2 ∨ i = 3 by omega) with rfl | rfl | rfl | rfl
  all_goals
    simp only [okI, numI, mostN] at hk
    simp at hk
    simp [hk]

set_option maxRecDepth 100000 in
set_option maxHeartbeats 4000000 in
theorem refRight_any (op a b c d : Int) (w : World) : Calls Tryd.prog 7 #[.agg #[.int .i64 op, .int .i64 a, .int .i64 b, .int .i64 c, .int .i64 d]] w fun e w' => e = .returned (.bool (rightC op a b c d)) ∧ Below w.heap.size w w' := by
  have hB := below1 w (Obj.cells #[.int .i64 op, .int .i64 a, .int .i64 b, .int .i64 c, .int .i64 d] 24)
  have c0 : (w.alloc (Obj.cells #[.int .i64 op, .int .i64 a, .int .i64 b, .int .i64 c, .int .i64 d] 24)).cell? ⟨w.heap.size, 0, none⟩ = some (.int .i64 op) := by simp
  by_cases h0 : 0 ≤ op ∧ op ≤ 19
  · obtain ⟨n, rfl⟩ := Int.eq_ofNat_of_zero_le h0.1
    have hn : n ≤ 19 := by omega
    have hnn := name_ne n hn
    have hA := Lib.hid (rightC_all (a := a) (b := b) (c := c) (d := d) h0)
    have hN := Lib.hid (fun i hi hk => rightC_not (op := n) (a := a) (b := b) (c := c) (d := d) i hi hk)
    have hc : ∀ i, i < 4 → (w.alloc (Obj.cells #[.int .i64 n, .int .i64 a, .int .i64 b, .int .i64 c, .int .i64 d] 24)).cell? ⟨w.heap.size, 1 + i, none⟩ = some (.int .i64 (numI a b c d i)) := by
      intro i hi
      rcases (show i = 0 ∨ i = 1 ∨ i = 2 ∨ i = 3 by omega) with rfl | rfl | rfl | rfl <;> simp [numI]
    have HC := Lib.hid hc
    clear hc
    go_enter Tryd.func7, Tryd.ntmps7
    go_wp2_with fail
    generalize w.alloc (Obj.cells #[.int .i64 n, .int .i64 a, .int .i64 b, .int .i64 c, .int .i64 d] 24) = w1 at *
    refine (refName_yes n _ hn).mono ?_
    rintro e w2 ⟨rfl, hb⟩
    replace c0 := kcell hb c0
    have HC2 : Hid (∀ i, i < 4 → w2.cell? ⟨w.heap.size, 1 + i, none⟩ = some (.int .i64 (numI a b c d i))) := fun i hi => kcell hb (HC.out i hi)
    replace hB := hB.trans (hb.mono hB.size)
    clear hb HC
    go_wp2_with fail
    go_loopw [3] (fun vi wr => ∃ k : Nat, k ≤ 4 ∧ vi = .int .i64 k ∧ Hid (∀ i, i < k → okI n a b c d i = true) ∧ Below w2.heap.size w2 wr) (fun i _ => 4 - (intOf i).toNat)
    case atStart => exact ⟨0, by omega, rfl, fun i hi => absurd hi (by omega), Below.refl _ _⟩
    case round =>
      obtain ⟨k, hk, rfl, HK, hb⟩ := hrel
      by_cases hlt : k < 4
      · replace c0 := kcell hb c0
        have c1 := kcell hb (HC2.out k hlt)
        have hk0 : (0 : Int) ≤ (k : Int) := by omega
        have hk1 : (k : Int) < 4 := by omega
        have HOK : Hid (okI n a b c d k = numOk (numI a b c d k) (hasI n k) (mostN k)) := rfl
        have HL := Lib.hid (fun W => letter_at n k W hn hlt)
        have HS := Lib.hid (fun W => refHas_any n W hn)
        have HM1 : Hid (mostN k = if k ≤ 1 then 255 else 1048575) := rfl
        generalize numI a b c d k = x at *
        generalize mostN k = m at *
        generalize hasI n k = q at *
        replace HOK := HOK.out
        have HM := HM1.out
        clear HM1
        have HY : Hid (numOk x q m = true → ∀ i, i < k + 1 → okI n a b c d i = true) := fun hy i hi => by
          by_cases hik : i = k
          · rw [hik, HOK, hy]
          · exact HK.out i (by omega)
        have HX : Hid (numOk x q m = false → rightC n a b c d = false) := fun hx => hN.out k hlt (by rw [HOK, hx])
        clear HOK HK hA hN
        have hb' := hB.trans (hb.mono hB.size)
        by_cases h1 : k ≤ 1
        all_goals simp only [h1, if_true, if_false] at HM
        all_goals subst HM
        all_goals cases q
        all_goals simp only [numOk, if_true, if_false, Bool.false_eq_true] at HX HY
        · rcases Int.lt_trichotomy x 0 with hx | hx | hx
          · go_wp2_with (first | (go_at_call 18; (with_reducible refine (HS.out _).mono ?_); rintro e w4 ⟨rfl, hb4⟩; replace c0 := kcell hb4 c0; replace c1 := kcell hb4 c1; replace hb := bstep hb (Nat.le_refl _) hb4; clear hb4) | (go_at_call 17; (with_reducible refine (HL.out _).mono ?_); rintro e w4 ⟨rfl, rfl⟩))
            go_ret
            exact ⟨by rw [HX.out (by simp; omega)]; rfl, hB.trans (hb.mono hB.size)⟩
          · subst hx
            go_wp2_with (first | (go_at_call 18; (with_reducible refine (HS.out _).mono ?_); rintro e w4 ⟨rfl, hb4⟩; replace c0 := kcell hb4 c0; replace c1 := kcell hb4 c1; replace hb := bstep hb (Nat.le_refl _) hb4; clear hb4) | (go_at_call 17; (with_reducible refine (HL.out _).mono ?_); rintro e w4 ⟨rfl, rfl⟩))
            go_roundw
            case rel => exact ⟨k + 1, by omega, by go_num, HY.out (by simp), hb⟩
            case measure => simp [intOf]; omega
          · have hx2 : ¬ x < 0 := by omega
            go_wp2_with (first | (go_at_call 18; (with_reducible refine (HS.out _).mono ?_); rintro e w4 ⟨rfl, hb4⟩; replace c0 := kcell hb4 c0; replace c1 := kcell hb4 c1; replace hb := bstep hb (Nat.le_refl _) hb4; clear hb4) | (go_at_call 17; (with_reducible refine (HL.out _).mono ?_); rintro e w4 ⟨rfl, rfl⟩))
            go_ret
            exact ⟨by rw [HX.out (by simp; omega)]; rfl, hB.trans (hb.mono hB.size)⟩
        · rcases (show x < 0 ∨ (0 ≤ x ∧ x ≤ 255) ∨ 255 < x by omega) with hx | ⟨hx, hx2⟩ | hx
          · go_wp2_with (first | (go_at_call 18; (with_reducible refine (HS.out _).mono ?_); rintro e w4 ⟨rfl, hb4⟩; replace c0 := kcell hb4 c0; replace c1 := kcell hb4 c1; replace hb := bstep hb (Nat.le_refl _) hb4; clear hb4) | (go_at_call 17; (with_reducible refine (HL.out _).mono ?_); rintro e w4 ⟨rfl, rfl⟩))
            go_ret
            exact ⟨by rw [HX.out (by simp; omega)]; rfl, hB.trans (hb.mono hB.size)⟩
          · have hx3 : ¬ x < 0 := by omega
            go_wp2_with (first | (go_at_call 18; (with_reducible refine (HS.out _).mono ?_); rintro e w4 ⟨rfl, hb4⟩; replace c0 := kcell hb4 c0; replace c1 := kcell hb4 c1; replace hb := bstep hb (Nat.le_refl _) hb4; clear hb4) | (go_at_call 17; (with_reducible refine (HL.out _).mono ?_); rintro e w4 ⟨rfl, rfl⟩))
            go_roundw
            case rel => exact ⟨k + 1, by omega, by go_num, HY.out (by simp; omega), hb⟩
            case measure => simp [intOf]; omega
          · have hx3 : ¬ x < 0 := by omega
            go_wp2_with (first | (go_at_call 18; (with_reducible refine (HS.out _).mono ?_); rintro e w4 ⟨rfl, hb4⟩; replace c0 := kcell hb4 c0; replace c1 := kcell hb4 c1; replace hb := bstep hb (Nat.le_refl _) hb4; clear hb4) | (go_at_call 17; (with_reducible refine (HL.out _).mono ?_); rintro e w4 ⟨rfl, rfl⟩))
            go_ret
            exact ⟨by rw [HX.out (by simp; omega)]; rfl, hB.trans (hb.mono hB.size)⟩
        · rcases Int.lt_trichotomy x 0 with hx | hx | hx
          · go_wp2_with (first | (go_at_call 18; (with_reducible refine (HS.out _).mono ?_); rintro e w4 ⟨rfl, hb4⟩; replace c0 := kcell hb4 c0; replace c1 := kcell hb4 c1; replace hb := bstep hb (Nat.le_refl _) hb4; clear hb4) | (go_at_call 17; (with_reducible refine (HL.out _).mono ?_); rintro e w4 ⟨rfl, rfl⟩))
            go_ret
            exact ⟨by rw [HX.out (by simp; omega)]; rfl, hB.trans (hb.mono hB.size)⟩
          · subst hx
            go_wp2_with (first | (go_at_call 18; (with_reducible refine (HS.out _).mono ?_); rintro e w4 ⟨rfl, hb4⟩; replace c0 := kcell hb4 c0; replace c1 := kcell hb4 c1; replace hb := bstep hb (Nat.le_refl _) hb4; clear hb4) | (go_at_call 17; (with_reducible refine (HL.out _).mono ?_); rintro e w4 ⟨rfl, rfl⟩))
            go_roundw
            case rel => exact ⟨k + 1, by omega, by go_num, HY.out (by simp), hb⟩
            case measure => simp [intOf]; omega
          · have hx2 : ¬ x < 0 := by omega
            go_wp2_with (first | (go_at_call 18; (with_reducible refine (HS.out _).mono ?_); rintro e w4 ⟨rfl, hb4⟩; replace c0 := kcell hb4 c0; replace c1 := kcell hb4 c1; replace hb := bstep hb (Nat.le_refl _) hb4; clear hb4) | (go_at_call 17; (with_reducible refine (HL.out _).mono ?_); rintro e w4 ⟨rfl, rfl⟩))
            go_ret
            exact ⟨by rw [HX.out (by simp; omega)]; rfl, hB.trans (hb.mono hB.size)⟩
        · rcases (show x < 0 ∨ (0 ≤ x ∧ x ≤ 1048575) ∨ 1048575 < x by omega) with hx | ⟨hx, hx2⟩ | hx
          · go_wp2_with (first | (go_at_call 18; (with_reducible refine (HS.out _).mono ?_); rintro e w4 ⟨rfl, hb4⟩; replace c0 := kcell hb4 c0; replace c1 := kcell hb4 c1; replace hb := bstep hb (Nat.le_refl _) hb4; clear hb4) | (go_at_call 17; (with_reducible refine (HL.out _).mono ?_); rintro e w4 ⟨rfl, rfl⟩))
            go_ret
            exact ⟨by rw [HX.out (by simp; omega)]; rfl, hB.trans (hb.mono hB.size)⟩
          · have hx3 : ¬ x < 0 := by omega
            go_wp2_with (first | (go_at_call 18; (with_reducible refine (HS.out _).mono ?_); rintro e w4 ⟨rfl, hb4⟩; replace c0 := kcell hb4 c0; replace c1 := kcell hb4 c1; replace hb := bstep hb (Nat.le_refl _) hb4; clear hb4) | (go_at_call 17; (with_reducible refine (HL.out _).mono ?_); rintro e w4 ⟨rfl, rfl⟩))
            go_roundw
            case rel => exact ⟨k + 1, by omega, by go_num, HY.out (by simp; omega), hb⟩
            case measure => simp [intOf]; omega
          · have hx3 : ¬ x < 0 := by omega
            go_wp2_with (first | (go_at_call 18; (with_reducible refine (HS.out _).mono ?_); rintro e w4 ⟨rfl, hb4⟩; replace c0 := kcell hb4 c0; replace c1 := kcell hb4 c1; replace hb := bstep hb (Nat.le_refl _) hb4; clear hb4) | (go_at_call 17; (with_reducible refine (HL.out _).mono ?_); rintro e w4 ⟨rfl, rfl⟩))
            go_ret
            exact ⟨by rw [HX.out (by simp; omega)]; rfl, hB.trans (hb.mono hB.size)⟩
      · obtain rfl : k = 4 := by omega
        go_wp2_with fail
        go_ret
        exact ⟨by rw [hA.out HK.out]; rfl, hB.trans (hb.mono hB.size)⟩
  · have hr : rightC op a b c d = false := by unfold rightC; simp [h0]
    rw [hr]
    go_enter Tryd.func7, Tryd.ntmps7
    go_wp2_with (go_at_call 9; refine (refName_no op _ h0).mono ?_; rintro e w2 ⟨rfl, hb⟩)
    go_ret
    exact ⟨rfl, hB.trans (hb.mono hB.size)⟩
end Go.Proofs.YtjojnfnjekjjnaaDoor
