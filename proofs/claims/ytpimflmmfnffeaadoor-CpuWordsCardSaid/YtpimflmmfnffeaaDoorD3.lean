/- Walks: which instructions may be, by the document. -/
import Derived.Test.YtpimflmmfnffeaaDoorD2
import Derived.Deep.DeepCutAuto
import Derived.Deep.CutBlock
namespace Go.Proofs.YtpimflmmfnffeaaDoor
open Go.RowKit

theorem name_ne (n : Nat) (h : n ≤ 18) : (nameS n).toList.isEmpty = false := by
  rcases (show n = 0 ∨ n = 1 ∨ n = 2 ∨ n = 3 ∨ n = 4 ∨ n = 5 ∨ n = 6 ∨ n = 7 ∨ n = 8 ∨ n = 9 ∨ n = 10 ∨ n = 11 ∨ n = 12 ∨ n = 13 ∨ n = 14 ∨ n = 15 ∨ n = 16 ∨ n = 17 ∨ n = 18 by omega) with rfl | rfl | rfl | rfl | rfl | rfl | rfl | rfl | rfl | rfl | rfl | rfl | rfl | rfl | rfl | rfl | rfl | rfl | rfl
  all_goals decide +kernel
/-- a part that is not had is not nought -/
def badP (x : Int) (p : Bool) : Bool := !p && x != 0
/-- the numbers are small enough -/
def fitsI (a b c n : Int) : Bool := decide (0 ≤ a ∧ a < 8) && decide (0 ≤ b ∧ b < 8) && decide (0 ≤ c ∧ c < 8) && decide (n < 17592186044416)
theorem right_bad {op a b c n : Int} (h0 : 0 ≤ op) (h1 : op ≤ 18) (hn : 0 ≤ n) : rightI op a b c n = (!(badP a (hasI op 0) || badP b (hasI op 1) || badP c (hasI op 2) || badP n (hasI op 3)) && fitsI a b c n) := by
  unfold rightI
  generalize hasI op 0 = p0
  generalize hasI op 1 = p1
  generalize hasI op 2 = p2
  generalize hasI op 3 = p3
  have : decide (0 ≤ op ∧ op ≤ 18) = true := by simp [h0, h1]
  rw [this, Bool.true_and]
  apply Bool.eq_iff_iff.2
  simp only [Bool.and_eq_true, Bool.not_eq_true', Bool.or_eq_false_iff, fitsI, decide_eq_true_eq]
  have e1 : ∀ (x : Int) (p : Bool), regOk x p = true ↔ (badP x p = false ∧ 0 ≤ x ∧ x < 8) := by
    intro x p
    unfold regOk badP
    cases p <;> simp <;> omega
  have e2 : ∀ (p : Bool), numOk n p = true ↔ (badP n p = false ∧ n < 17592186044416) := by
    intro p
    unfold numOk badP mostK
    cases p <;> simp <;> omega
  rw [e1, e1, e1, e2]
  constructor
  · rintro ⟨⟨⟨⟨h1, h2⟩, ⟨h3, h4⟩⟩, ⟨h5, h6⟩⟩, ⟨h7, h8⟩⟩
    exact ⟨⟨⟨⟨h1, h3⟩, h5⟩, h7⟩, ⟨⟨h2, h4⟩, h6⟩, h8⟩
  · rintro ⟨⟨⟨⟨h1, h3⟩, h5⟩, h7⟩, ⟨⟨h2, h4⟩, h6⟩, h8⟩
    exact ⟨⟨⟨⟨h1, h2⟩, ⟨h3, h4⟩⟩, ⟨h5, h6⟩⟩, ⟨h7, h8⟩⟩

set_option maxRecDepth 100000 in
set_option maxHeartbeats 4000000 in
theorem refRight_any (op a b c n : Int) (w : World) (hn : 0 ≤ n) : Calls Tryd.prog 9 #[.agg #[.int .i64 op, .int .i64 a, .int .i64 b, .int .i64 c, .int .u64 n]] w fun e w' => e = .returned (.bool (rightI op a b c n)) ∧ Below w.heap.size w w' := by
  have hB := below1 w (Obj.cells #[.int .i64 op, .int .i64 a, .int .i64 b, .int .i64 c, .int .u64 n] 24)
  have bk := Blk.new w 24 #[.int .i64 op, .int .i64 a, .int .i64 b, .int .i64 c, .int .u64 n]
  by_cases h0 : 0 ≤ op ∧ op ≤ 18
  · have HR := Lib.hid (right_bad (a := a) (b := b) (c := c) h0.1 h0.2 hn)
    obtain ⟨k, rfl⟩ := Int.eq_ofNat_of_zero_le h0.1
    have hk : k ≤ 18 := by omega
    have hnn := name_ne k hk
    have HL0 := Lib.hid (fun W => letter_at k 0 W hk (by decide))
    have HL1 := Lib.hid (fun W => letter_at k 1 W hk (by decide))
    have HL2 := Lib.hid (fun W => letter_at k 2 W hk (by decide))
    have HL3 := Lib.hid (fun W => letter_at k 3 W hk (by decide))
    simp only [letN] at HL0 HL1 HL2 HL3
    have HS := Lib.hid (fun W => refHas_any k W hk)
    rw [HR.out]
    clear HR h0
    generalize hasI (k : Int) 0 = p0 at *
    generalize hasI (k : Int) 1 = p1 at *
    generalize hasI (k : Int) 2 = p2 at *
    generalize hasI (k : Int) 3 = p3 at *
    obtain ⟨bad, HB⟩ : ∃ bad : Bool, Hid (bad = (badP a p0 || badP b p1 || badP c p2 || badP n p3)) := ⟨_, rfl⟩
    obtain ⟨fit, HG⟩ : ∃ fit : Bool, Hid (fit = fitsI a b c n) := ⟨_, rfl⟩
    rw [← HB.out, ← HG.out]
    have c0 := bk.cell 0 (.int .i64 k) rfl
    go_enter Tryd.func9, Tryd.ntmps9
    go_wp2_with fail
    generalize w.alloc (Obj.cells #[.int .i64 (k : Int), .int .i64 a, .int .i64 b, .int .i64 c, .int .u64 n] 24) = w1 at *
    refine (refName_yes k _ hk).mono ?_
    rintro e w2 ⟨rfl, hb⟩
    replace bk := bk.keep hb
    replace hB := bstep hB (Nat.le_refl _) hb
    clear hb c0
    have c0 := bk.cell 0 (.int .i64 k) rfl
    go_wp2_with fail
    refine (HS.out _).mono ?_
    rintro e w3 ⟨rfl, hb⟩
    replace bk := bk.keep hb
    replace hB := bstep hB (Nat.le_refl _) hb
    clear hb c0 hnn hk
    have c1 := bk.cell 1 (.int .i64 a) rfl
    have c2 := bk.cell 2 (.int .i64 b) rfl
    have c3 := bk.cell 3 (.int .i64 c) rfl
    have c4 := bk.cell 4 (.int .u64 n) rfl
    generalize hasS k = s at *
    go_upto_region 4 with (fail)
    go_cut [48] (fun s48 wx => s48 = .bool bad ∧ w3 = wx)
    case first =>
      cases p0
      · by_cases z0 : a = 0
        · subst z0
          cases p1
          · by_cases z1 : b = 0
            · subst z1
              cases p2
              · by_cases z2 : c = 0
                · subst z2
                  cases p3
                  · by_cases z3 : n = 0
                    · subst z3
                      have HF : Hid (bad = false) := by unfold Hid; rw [HB.out]; unfold badP; simp [*]
                      go_wp2_with (go_at_call 20; (first | (with_reducible refine (HL0.out _).mono ?_) | (with_reducible refine (HL1.out _).mono ?_) | (with_reducible refine (HL2.out _).mono ?_) | (with_reducible refine (HL3.out _).mono ?_)); rintro e w4 ⟨rfl, rfl⟩)
                      go_meet
                      exact ⟨by rw [HF.out], rfl⟩
                    · have y3 : (n != 0) = true := by simp [z3]
                      have HF : Hid (bad = true) := by unfold Hid; rw [HB.out]; unfold badP; simp [*]
                      go_wp2_with (go_at_call 20; (first | (with_reducible refine (HL0.out _).mono ?_) | (with_reducible refine (HL1.out _).mono ?_) | (with_reducible refine (HL2.out _).mono ?_) | (with_reducible refine (HL3.out _).mono ?_)); rintro e w4 ⟨rfl, rfl⟩)
                      go_meet
                      exact ⟨by rw [HF.out], rfl⟩
                  · skip
                    have HF : Hid (bad = false) := by unfold Hid; rw [HB.out]; unfold badP; simp [*]
                    go_wp2_with (go_at_call 20; (first | (with_reducible refine (HL0.out _).mono ?_) | (with_reducible refine (HL1.out _).mono ?_) | (with_reducible refine (HL2.out _).mono ?_) | (with_reducible refine (HL3.out _).mono ?_)); rintro e w4 ⟨rfl, rfl⟩)
                    go_meet
                    exact ⟨by rw [HF.out], rfl⟩
                · have y2 : (c != 0) = true := by simp [z2]
                  have HF : Hid (bad = true) := by unfold Hid; rw [HB.out]; unfold badP; simp [*]
                  go_wp2_with (go_at_call 20; (first | (with_reducible refine (HL0.out _).mono ?_) | (with_reducible refine (HL1.out _).mono ?_) | (with_reducible refine (HL2.out _).mono ?_) | (with_reducible refine (HL3.out _).mono ?_)); rintro e w4 ⟨rfl, rfl⟩)
                  go_meet
                  exact ⟨by rw [HF.out], rfl⟩
              · skip
                cases p3
                · by_cases z3 : n = 0
                  · subst z3
                    have HF : Hid (bad = false) := by unfold Hid; rw [HB.out]; unfold badP; simp [*]
                    go_wp2_with (go_at_call 20; (first | (with_reducible refine (HL0.out _).mono ?_) | (with_reducible refine (HL1.out _).mono ?_) | (with_reducible refine (HL2.out _).mono ?_) | (with_reducible refine (HL3.out _).mono ?_)); rintro e w4 ⟨rfl, rfl⟩)
                    go_meet
                    exact ⟨by rw [HF.out], rfl⟩
                  · have y3 : (n != 0) = true := by simp [z3]
                    have HF : Hid (bad = true) := by unfold Hid; rw [HB.out]; unfold badP; simp [*]
                    go_wp2_with (go_at_call 20; (first | (with_reducible refine (HL0.out _).mono ?_) | (with_reducible refine (HL1.out _).mono ?_) | (with_reducible refine (HL2.out _).mono ?_) | (with_reducible refine (HL3.out _).mono ?_)); rintro e w4 ⟨rfl, rfl⟩)
                    go_meet
                    exact ⟨by rw [HF.out], rfl⟩
                · skip
                  have HF : Hid (bad = false) := by unfold Hid; rw [HB.out]; unfold badP; simp [*]
                  go_wp2_with (go_at_call 20; (first | (with_reducible refine (HL0.out _).mono ?_) | (with_reducible refine (HL1.out _).mono ?_) | (with_reducible refine (HL2.out _).mono ?_) | (with_reducible refine (HL3.out _).mono ?_)); rintro e w4 ⟨rfl, rfl⟩)
                  go_meet
                  exact ⟨by rw [HF.out], rfl⟩
            · have y1 : (b != 0) = true := by simp [z1]
              have HF : Hid (bad = true) := by unfold Hid; rw [HB.out]; unfold badP; simp [*]
              go_wp2_with (go_at_call 20; (first | (with_reducible refine (HL0.out _).mono ?_) | (with_reducible refine (HL1.out _).mono ?_) | (with_reducible refine (HL2.out _).mono ?_) | (with_reducible refine (HL3.out _).mono ?_)); rintro e w4 ⟨rfl, rfl⟩)
              go_meet
              exact ⟨by rw [HF.out], rfl⟩
          · skip
            cases p2
            · by_cases z2 : c = 0
              · subst z2
                cases p3
                · by_cases z3 : n = 0
                  · subst z3
                    have HF : Hid (bad = false) := by unfold Hid; rw [HB.out]; unfold badP; simp [*]
                    go_wp2_with (go_at_call 20; (first | (with_reducible refine (HL0.out _).mono ?_) | (with_reducible refine (HL1.out _).mono ?_) | (with_reducible refine (HL2.out _).mono ?_) | (with_reducible refine (HL3.out _).mono ?_)); rintro e w4 ⟨rfl, rfl⟩)
                    go_meet
                    exact ⟨by rw [HF.out], rfl⟩
                  · have y3 : (n != 0) = true := by simp [z3]
                    have HF : Hid (bad = true) := by unfold Hid; rw [HB.out]; unfold badP; simp [*]
                    go_wp2_with (go_at_call 20; (first | (with_reducible refine (HL0.out _).mono ?_) | (with_reducible refine (HL1.out _).mono ?_) | (with_reducible refine (HL2.out _).mono ?_) | (with_reducible refine (HL3.out _).mono ?_)); rintro e w4 ⟨rfl, rfl⟩)
                    go_meet
                    exact ⟨by rw [HF.out], rfl⟩
                · skip
                  have HF : Hid (bad = false) := by unfold Hid; rw [HB.out]; unfold badP; simp [*]
                  go_wp2_with (go_at_call 20; (first | (with_reducible refine (HL0.out _).mono ?_) | (with_reducible refine (HL1.out _).mono ?_) | (with_reducible refine (HL2.out _).mono ?_) | (with_reducible refine (HL3.out _).mono ?_)); rintro e w4 ⟨rfl, rfl⟩)
                  go_meet
                  exact ⟨by rw [HF.out], rfl⟩
              · have y2 : (c != 0) = true := by simp [z2]
                have HF : Hid (bad = true) := by unfold Hid; rw [HB.out]; unfold badP; simp [*]
                go_wp2_with (go_at_call 20; (first | (with_reducible refine (HL0.out _).mono ?_) | (with_reducible refine (HL1.out _).mono ?_) | (with_reducible refine (HL2.out _).mono ?_) | (with_reducible refine (HL3.out _).mono ?_)); rintro e w4 ⟨rfl, rfl⟩)
                go_meet
                exact ⟨by rw [HF.out], rfl⟩
            · skip
              cases p3
              · by_cases z3 : n = 0
                · subst z3
                  have HF : Hid (bad = false) := by unfold Hid; rw [HB.out]; unfold badP; simp [*]
                  go_wp2_with (go_at_call 20; (first | (with_reducible refine (HL0.out _).mono ?_) | (with_reducible refine (HL1.out _).mono ?_) | (with_reducible refine (HL2.out _).mono ?_) | (with_reducible refine (HL3.out _).mono ?_)); rintro e w4 ⟨rfl, rfl⟩)
                  go_meet
                  exact ⟨by rw [HF.out], rfl⟩
                · have y3 : (n != 0) = true := by simp [z3]
                  have HF : Hid (bad = true) := by unfold Hid; rw [HB.out]; unfold badP; simp [*]
                  go_wp2_with (go_at_call 20; (first | (with_reducible refine (HL0.out _).mono ?_) | (with_reducible refine (HL1.out _).mono ?_) | (with_reducible refine (HL2.out _).mono ?_) | (with_reducible refine (HL3.out _).mono ?_)); rintro e w4 ⟨rfl, rfl⟩)
                  go_meet
                  exact ⟨by rw [HF.out], rfl⟩
              · skip
                have HF : Hid (bad = false) := by unfold Hid; rw [HB.out]; unfold badP; simp [*]
                go_wp2_with (go_at_call 20; (first | (with_reducible refine (HL0.out _).mono ?_) | (with_reducible refine (HL1.out _).mono ?_) | (with_reducible refine (HL2.out _).mono ?_) | (with_reducible refine (HL3.out _).mono ?_)); rintro e w4 ⟨rfl, rfl⟩)
                go_meet
                exact ⟨by rw [HF.out], rfl⟩
        · have y0 : (a != 0) = true := by simp [z0]
          have HF : Hid (bad = true) := by unfold Hid; rw [HB.out]; unfold badP; simp [*]
          go_wp2_with (go_at_call 20; (first | (with_reducible refine (HL0.out _).mono ?_) | (with_reducible refine (HL1.out _).mono ?_) | (with_reducible refine (HL2.out _).mono ?_) | (with_reducible refine (HL3.out _).mono ?_)); rintro e w4 ⟨rfl, rfl⟩)
          go_meet
          exact ⟨by rw [HF.out], rfl⟩
      · skip
        cases p1
        · by_cases z1 : b = 0
          · subst z1
            cases p2
            · by_cases z2 : c = 0
              · subst z2
                cases p3
                · by_cases z3 : n = 0
                  · subst z3
                    have HF : Hid (bad = false) := by unfold Hid; rw [HB.out]; unfold badP; simp [*]
                    go_wp2_with (go_at_call 20; (first | (with_reducible refine (HL0.out _).mono ?_) | (with_reducible refine (HL1.out _).mono ?_) | (with_reducible refine (HL2.out _).mono ?_) | (with_reducible refine (HL3.out _).mono ?_)); rintro e w4 ⟨rfl, rfl⟩)
                    go_meet
                    exact ⟨by rw [HF.out], rfl⟩
                  · have y3 : (n != 0) = true := by simp [z3]
                    have HF : Hid (bad = true) := by unfold Hid; rw [HB.out]; unfold badP; simp [*]
                    go_wp2_with (go_at_call 20; (first | (with_reducible refine (HL0.out _).mono ?_) | (with_reducible refine (HL1.out _).mono ?_) | (with_reducible refine (HL2.out _).mono ?_) | (with_reducible refine (HL3.out _).mono ?_)); rintro e w4 ⟨rfl, rfl⟩)
                    go_meet
                    exact ⟨by rw [HF.out], rfl⟩
                · skip
                  have HF : Hid (bad = false) := by unfold Hid; rw [HB.out]; unfold badP; simp [*]
                  go_wp2_with (go_at_call 20; (first | (with_reducible refine (HL0.out _).mono ?_) | (with_reducible refine (HL1.out _).mono ?_) | (with_reducible refine (HL2.out _).mono ?_) | (with_reducible refine (HL3.out _).mono ?_)); rintro e w4 ⟨rfl, rfl⟩)
                  go_meet
                  exact ⟨by rw [HF.out], rfl⟩
              · have y2 : (c != 0) = true := by simp [z2]
                have HF : Hid (bad = true) := by unfold Hid; rw [HB.out]; unfold badP; simp [*]
                go_wp2_with (go_at_call 20; (first | (with_reducible refine (HL0.out _).mono ?_) | (with_reducible refine (HL1.out _).mono ?_) | (with_reducible refine (HL2.out _).mono ?_) | (with_reducible refine (HL3.out _).mono ?_)); rintro e w4 ⟨rfl, rfl⟩)
                go_meet
                exact ⟨by rw [HF.out], rfl⟩
            · skip
              cases p3
              · by_cases z3 : n = 0
                · subst z3
                  have HF : Hid (bad = false) := by unfold Hid; rw [HB.out]; unfold badP; simp [*]
                  go_wp2_with (go_at_call 20; (first | (with_reducible refine (HL0.out _).mono ?_) | (with_reducible refine (HL1.out _).mono ?_) | (with_reducible refine (HL2.out _).mono ?_) | (with_reducible refine (HL3.out _).mono ?_)); rintro e w4 ⟨rfl, rfl⟩)
                  go_meet
                  exact ⟨by rw [HF.out], rfl⟩
                · have y3 : (n != 0) = true := by simp [z3]
                  have HF : Hid (bad = true) := by unfold Hid; rw [HB.out]; unfold badP; simp [*]
                  go_wp2_with (go_at_call 20; (first | (with_reducible refine (HL0.out _).mono ?_) | (with_reducible refine (HL1.out _).mono ?_) | (with_reducible refine (HL2.out _).mono ?_) | (with_reducible refine (HL3.out _).mono ?_)); rintro e w4 ⟨rfl, rfl⟩)
                  go_meet
                  exact ⟨by rw [HF.out], rfl⟩
              · skip
                have HF : Hid (bad = false) := by unfold Hid; rw [HB.out]; unfold badP; simp [*]
                go_wp2_with (go_at_call 20; (first | (with_reducible refine (HL0.out _).mono ?_) | (with_reducible refine (HL1.out _).mono ?_) | (with_reducible refine (HL2.out _).mono ?_) | (with_reducible refine (HL3.out _).mono ?_)); rintro e w4 ⟨rfl, rfl⟩)
                go_meet
                exact ⟨by rw [HF.out], rfl⟩
          · have y1 : (b != 0) = true := by simp [z1]
            have HF : Hid (bad = true) := by unfold Hid; rw [HB.out]; unfold badP; simp [*]
            go_wp2_with (go_at_call 20; (first | (with_reducible refine (HL0.out _).mono ?_) | (with_reducible refine (HL1.out _).mono ?_) | (with_reducible refine (HL2.out _).mono ?_) | (with_reducible refine (HL3.out _).mono ?_)); rintro e w4 ⟨rfl, rfl⟩)
            go_meet
            exact ⟨by rw [HF.out], rfl⟩
        · skip
          cases p2
          · by_cases z2 : c = 0
            · subst z2
              cases p3
              · by_cases z3 : n = 0
                · subst z3
                  have HF : Hid (bad = false) := by unfold Hid; rw [HB.out]; unfold badP; simp [*]
                  go_wp2_with (go_at_call 20; (first | (with_reducible refine (HL0.out _).mono ?_) | (with_reducible refine (HL1.out _).mono ?_) | (with_reducible refine (HL2.out _).mono ?_) | (with_reducible refine (HL3.out _).mono ?_)); rintro e w4 ⟨rfl, rfl⟩)
                  go_meet
                  exact ⟨by rw [HF.out], rfl⟩
                · have y3 : (n != 0) = true := by simp [z3]
                  have HF : Hid (bad = true) := by unfold Hid; rw [HB.out]; unfold badP; simp [*]
                  go_wp2_with (go_at_call 20; (first | (with_reducible refine (HL0.out _).mono ?_) | (with_reducible refine (HL1.out _).mono ?_) | (with_reducible refine (HL2.out _).mono ?_) | (with_reducible refine (HL3.out _).mono ?_)); rintro e w4 ⟨rfl, rfl⟩)
                  go_meet
                  exact ⟨by rw [HF.out], rfl⟩
              · skip
                have HF : Hid (bad = false) := by unfold Hid; rw [HB.out]; unfold badP; simp [*]
                go_wp2_with (go_at_call 20; (first | (with_reducible refine (HL0.out _).mono ?_) | (with_reducible refine (HL1.out _).mono ?_) | (with_reducible refine (HL2.out _).mono ?_) | (with_reducible refine (HL3.out _).mono ?_)); rintro e w4 ⟨rfl, rfl⟩)
                go_meet
                exact ⟨by rw [HF.out], rfl⟩
            · have y2 : (c != 0) = true := by simp [z2]
              have HF : Hid (bad = true) := by unfold Hid; rw [HB.out]; unfold badP; simp [*]
              go_wp2_with (go_at_call 20; (first | (with_reducible refine (HL0.out _).mono ?_) | (with_reducible refine (HL1.out _).mono ?_) | (with_reducible refine (HL2.out _).mono ?_) | (with_reducible refine (HL3.out _).mono ?_)); rintro e w4 ⟨rfl, rfl⟩)
              go_meet
              exact ⟨by rw [HF.out], rfl⟩
          · skip
            cases p3
            · by_cases z3 : n = 0
              · subst z3
                have HF : Hid (bad = false) := by unfold Hid; rw [HB.out]; unfold badP; simp [*]
                go_wp2_with (go_at_call 20; (first | (with_reducible refine (HL0.out _).mono ?_) | (with_reducible refine (HL1.out _).mono ?_) | (with_reducible refine (HL2.out _).mono ?_) | (with_reducible refine (HL3.out _).mono ?_)); rintro e w4 ⟨rfl, rfl⟩)
                go_meet
                exact ⟨by rw [HF.out], rfl⟩
              · have y3 : (n != 0) = true := by simp [z3]
                have HF : Hid (bad = true) := by unfold Hid; rw [HB.out]; unfold badP; simp [*]
                go_wp2_with (go_at_call 20; (first | (with_reducible refine (HL0.out _).mono ?_) | (with_reducible refine (HL1.out _).mono ?_) | (with_reducible refine (HL2.out _).mono ?_) | (with_reducible refine (HL3.out _).mono ?_)); rintro e w4 ⟨rfl, rfl⟩)
                go_meet
                exact ⟨by rw [HF.out], rfl⟩
            · skip
              have HF : Hid (bad = false) := by unfold Hid; rw [HB.out]; unfold badP; simp [*]
              go_wp2_with (go_at_call 20; (first | (with_reducible refine (HL0.out _).mono ?_) | (with_reducible refine (HL1.out _).mono ?_) | (with_reducible refine (HL2.out _).mono ?_) | (with_reducible refine (HL3.out _).mono ?_)); rintro e w4 ⟨rfl, rfl⟩)
              go_meet
              exact ⟨by rw [HF.out], rfl⟩
    case rest =>
      obtain ⟨rfl, rfl⟩ := hcut
      clear HB HL0 HL1 HL2 HL3 HS
      cases bad
      · skip
        rcases (show a < 0 ∨ (0 ≤ a ∧ a < 8) ∨ (0 ≤ a ∧ 8 ≤ a) by omega) with z0 | ⟨z0, y0⟩ | ⟨z0, y0⟩
        · skip
          have HF : Hid (fit = false) := by unfold Hid; rw [HG.out]; unfold fitsI; simp [*]; try omega
          go_wp2_with fail
          go_ret
          exact ⟨by rw [HF.out]; rfl, hB⟩
        · skip
          rcases (show b < 0 ∨ (0 ≤ b ∧ b < 8) ∨ (0 ≤ b ∧ 8 ≤ b) by omega) with z1 | ⟨z1, y1⟩ | ⟨z1, y1⟩
          · skip
            have HF : Hid (fit = false) := by unfold Hid; rw [HG.out]; unfold fitsI; simp [*]; try omega
            go_wp2_with fail
            go_ret
            exact ⟨by rw [HF.out]; rfl, hB⟩
          · skip
            rcases (show c < 0 ∨ (0 ≤ c ∧ c < 8) ∨ (0 ≤ c ∧ 8 ≤ c) by omega) with z2 | ⟨z2, y2⟩ | ⟨z2, y2⟩
            · skip
              have HF : Hid (fit = false) := by unfold Hid; rw [HG.out]; unfold fitsI; simp [*]; try omega
              go_wp2_with fail
              go_ret
              exact ⟨by rw [HF.out]; rfl, hB⟩
            · skip
              by_cases z3 : n < 17592186044416
              · skip
                have HF : Hid (fit = true) := by unfold Hid; rw [HG.out]; unfold fitsI; simp [*]; try omega
                go_wp2_with fail
                go_ret
                exact ⟨by rw [HF.out]; rfl, hB⟩
              · skip
                have HF : Hid (fit = false) := by unfold Hid; rw [HG.out]; unfold fitsI; simp [*]; try omega
                go_wp2_with fail
                go_ret
                exact ⟨by rw [HF.out]; rfl, hB⟩
            · skip
              have HF : Hid (fit = false) := by unfold Hid; rw [HG.out]; unfold fitsI; simp [*]; try omega
              go_wp2_with fail
              go_ret
              exact ⟨by rw [HF.out]; rfl, hB⟩
          · skip
            have HF : Hid (fit = false) := by unfold Hid; rw [HG.out]; unfold fitsI; simp [*]; try omega
            go_wp2_with fail
            go_ret
            exact ⟨by rw [HF.out]; rfl, hB⟩
        · skip
          have HF : Hid (fit = false) := by unfold Hid; rw [HG.out]; unfold fitsI; simp [*]; try omega
          go_wp2_with fail
          go_ret
          exact ⟨by rw [HF.out]; rfl, hB⟩
      · go_wp2_with fail
        go_ret
        exact ⟨rfl, hB⟩
  · have hr : rightI op a b c n = false := by unfold rightI; rw [decide_eq_false h0]; rfl
    rw [hr]
    have c0 := bk.cell 0 (.int .i64 op) rfl
    go_enter Tryd.func9, Tryd.ntmps9
    go_wp2_with fail
    generalize w.alloc (Obj.cells #[.int .i64 op, .int .i64 a, .int .i64 b, .int .i64 c, .int .u64 n] 24) = w1 at *
    refine (refName_no op _ h0).mono ?_
    rintro e w2 ⟨rfl, hb⟩
    go_wp2_with fail
    go_ret
    exact ⟨rfl, bstep hB (Nat.le_refl _) hb⟩
end Go.Proofs.YtpimflmmfnffeaaDoor
