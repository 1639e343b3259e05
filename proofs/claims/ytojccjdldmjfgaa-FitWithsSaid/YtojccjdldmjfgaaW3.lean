/- Walks: the statement FitFirsts, and the statements' small functions. -/
import Derived.Test.YtojccjdldmjfgaaW2
namespace Go.Proofs.Ytojccjdldmjfgaa
open Go.RowKit

theorem to_any (b p : Int) (w : World) : Calls Try.prog 10 #[.agg #[.int .i64 b, .int .i64 p]] w fun e w' => e = .returned (.agg #[.int .i64 b, .int .i64 p]) ∧ Below w.heap.size w w' := by
  go_enter Try.func10, Try.ntmps10
  go_wp2
  exact bodyPost_ret (v := .agg #[.int .i64 b, .int .i64 p]) (by simp [results, Try.results10, go_sem, *]) rfl ⟨rfl, (below1 _ _).alloc (by simp) _⟩
def fewB (n m : Nat) (k : Int) : Bool := decide (n ≤ 12 ∧ m ≤ 12 ∧ (k ≤ 1000 ∨ 1048576 < k))
set_option maxHeartbeats 1000000 in
theorem few_any (A : Option Addr) (n c : Nat) (S : Option Addr) (m d : Nat) (k : Int) (w : World) : Calls Try.prog 7 #[.slice A n c, .slice S m d, .int .i64 k] w fun e w' => e = .returned (.bool (fewB n m k)) ∧ w = w' := by
  go_enter Try.func7, Try.ntmps7
  go_wp2
  all_goals go_ret
  all_goals refine ⟨ret_bool ?_, rfl⟩
  all_goals unfold fewB
  all_goals first | (simp; done) | (simp; omega) | (rw [decide_eq_decide]; omega) | (rw [Bool.eq_iff_iff]; simp; omega)
theorem awake_any (w : World) : Calls Try.prog 8 #[] w fun e w' => e = .returned (.bool true) ∧ Below w.heap.size w w' := by
  have hB := below1 w (Obj.cells #[.int .i64 1, .int .i64 10, .int .i64 10] 40)
  have hs : Sl eT 3 (w.alloc (Obj.cells #[.int .i64 1, .int .i64 10, .int .i64 10] 40)) (some ⟨w.heap.size, 0, none⟩) [⟨1, 10, 10⟩] := Sl.lit eT_ok w [⟨1, 10, 10⟩] _ rfl _
  have ek : keepsB [⟨1, 10, 10⟩] [] 1 5 100 = true := by decide +kernel
  have HK : Hid (Calls Try.prog 13 #[.slice (some ⟨w.heap.size, 0, none⟩) 1 1, .slice none 0 0, .agg #[.int .i64 1, .int .i64 5], .int .i64 100] (w.alloc (Obj.cells #[.int .i64 1, .int .i64 10, .int .i64 10] 40)) fun e w' => e = .returned (.bool true) ∧ Below (w.alloc (Obj.cells #[.int .i64 1, .int .i64 10, .int .i64 10] 40)).heap.size (w.alloc (Obj.cells #[.int .i64 1, .int .i64 10, .int .i64 10] 40)) w') := by
    rw [← ek]
    exact fKeeps_any (some ⟨w.heap.size, 0, none⟩) [⟨1, 10, 10⟩] 1 none [] 0 1 5 100 _ hs (by decide) (Sl.nil _ _) (by decide)
  go_enter Try.func8, Try.ntmps8
  go_wp2_with fail
  refine HK.out.mono ?_
  rintro e w2 ⟨rfl, hb⟩
  go_wp2_with fail
  go_ret
  exact ⟨rfl, bstep hB (Nat.le_refl _) hb⟩

set_option maxRecDepth 100000 in
set_option maxHeartbeats 4000000 in
theorem firsts_any (A : Option Addr) (l : List Tk) (c : Nat) (S : Option Addr) (s : List Int) (d : Nat) (b p n : Int) (w : World) (hs : Sl eT 3 w A l) (hm : l.length ≤ 9223372036854775807) (hz : Sl eI 1 w S s) (hmz : s.length ≤ 9223372036854775807) :
    Calls Try.prog 3 #[.slice A l.length c, .slice S s.length d, .agg #[.int .i64 b, .int .i64 p], .int .i64 n] w fun e w' => e = .returned (.bool true) ∧ Below w.heap.size w w' := by
  have hB := below1 w (Obj.cells #[.int .i64 b, .int .i64 p] 25)
  have bk := Blk.new w 25 #[.int .i64 b, .int .i64 p]
  have hs1 := hs.keep hB
  have hz1 := hz.keep hB
  have c0 := bk.cell 0 (.int .i64 b) rfl
  have c1 := bk.cell 1 (.int .i64 p) rfl
  clear bk
  have HF := Lib.hid (fun W => few_any A l.length c S s.length d n W)
  cases hf : fewB l.length s.length n
  · rw [hf] at HF
    go_enter Try.func3, Try.ntmps3
    go_wp2_with (first | (go_at_call 7; (with_reducible refine (HF.out _).mono ?_); rintro e w5 ⟨rfl, rfl⟩) | (go_at_call 8; (with_reducible refine (awake_any _).mono ?_); rintro e w5 ⟨rfl, hb⟩; replace hs1 := hs1.keep hb; replace hz1 := hz1.keep hb; replace hB := bstep hB (Nat.le_refl _) hb; replace c0 := kcell hb c0; replace c1 := kcell hb c1; clear hb))
    go_ret
    exact ⟨rfl, hB⟩
  · rw [hf] at HF
    have HI := Lib.hid (fun W hW hW2 => fFirst_any A l c S s d b p n W hW hm hW2 hmz)
    have HQ := Lib.hid (fun W hW hW2 => rRight_any A l c S s d b p W hW hm hW2 hmz)
    have HR := Lib.hid (fun W hW hW2 => fRight_any A l c S s d b p W hW hm hW2 hmz)
    have HK := Lib.hid (fun W hW hW2 => fKeeps_any A l c S s d b p n W hW hm hW2 hmz)
    unfold firstVal at HI
    unfold keepsB at HK
    cases hr : rightF l s b p
    · rw [hr] at HI HQ HR HK
      simp only [Bool.false_and, Bool.false_eq_true, if_false] at HI HK
      go_enter Try.func3, Try.ntmps3
      go_wp2_with (first | (go_at_call 7; (with_reducible refine (HF.out _).mono ?_); rintro e w5 ⟨rfl, rfl⟩) | (go_at_call 8; (with_reducible refine (awake_any _).mono ?_); rintro e w5 ⟨rfl, hb⟩; replace hs1 := hs1.keep hb; replace hz1 := hz1.keep hb; replace hB := bstep hB (Nat.le_refl _) hb; replace c0 := kcell hb c0; replace c1 := kcell hb c1; clear hb) | (go_at_call 10; (with_reducible refine (to_any _ _ _).mono ?_); rintro e w5 ⟨rfl, hb⟩; replace hs1 := hs1.keep hb; replace hz1 := hz1.keep hb; replace hB := bstep hB (Nat.le_refl _) hb; replace c0 := kcell hb c0; replace c1 := kcell hb c1; clear hb) | (go_at_call 9; (with_reducible refine (HI.out _ hs1 hz1).mono ?_); rintro e w5 ⟨rfl, hb⟩; replace hs1 := hs1.keep hb; replace hz1 := hz1.keep hb; replace hB := bstep hB (Nat.le_refl _) hb; replace c0 := kcell hb c0; replace c1 := kcell hb c1; clear hb) | (go_at_call 11; (with_reducible refine (HQ.out _ hs1 hz1).mono ?_); rintro e w5 ⟨rfl, hb⟩; replace hs1 := hs1.keep hb; replace hz1 := hz1.keep hb; replace hB := bstep hB (Nat.le_refl _) hb; replace c0 := kcell hb c0; replace c1 := kcell hb c1; clear hb) | (go_at_call 12; (with_reducible refine (HR.out _ hs1 hz1).mono ?_); rintro e w5 ⟨rfl, hb⟩; replace hs1 := hs1.keep hb; replace hz1 := hz1.keep hb; replace hB := bstep hB (Nat.le_refl _) hb; replace c0 := kcell hb c0; replace c1 := kcell hb c1; clear hb) | (go_at_call 13; (with_reducible refine (HK.out _ hs1 hz1).mono ?_); rintro e w5 ⟨rfl, hb⟩; replace hs1 := hs1.keep hb; replace hz1 := hz1.keep hb; replace hB := bstep hB (Nat.le_refl _) hb; replace c0 := kcell hb c0; replace c1 := kcell hb c1; clear hb))
      go_ret
      exact ⟨rfl, hB⟩
    · rw [hr] at HI HQ HR HK
      have H := rightF_t hr
      by_cases h0 : n < 0
      · have hst : strT n = false := decide_eq_false (by omega)
        rw [hst] at HI HK
        simp only [Bool.and_false, Bool.false_and, Bool.false_eq_true, if_false] at HI HK
        go_enter Try.func3, Try.ntmps3
        go_wp2_with (first | (go_at_call 7; (with_reducible refine (HF.out _).mono ?_); rintro e w5 ⟨rfl, rfl⟩) | (go_at_call 8; (with_reducible refine (awake_any _).mono ?_); rintro e w5 ⟨rfl, hb⟩; replace hs1 := hs1.keep hb; replace hz1 := hz1.keep hb; replace hB := bstep hB (Nat.le_refl _) hb; replace c0 := kcell hb c0; replace c1 := kcell hb c1; clear hb) | (go_at_call 10; (with_reducible refine (to_any _ _ _).mono ?_); rintro e w5 ⟨rfl, hb⟩; replace hs1 := hs1.keep hb; replace hz1 := hz1.keep hb; replace hB := bstep hB (Nat.le_refl _) hb; replace c0 := kcell hb c0; replace c1 := kcell hb c1; clear hb) | (go_at_call 9; (with_reducible refine (HI.out _ hs1 hz1).mono ?_); rintro e w5 ⟨rfl, hb⟩; replace hs1 := hs1.keep hb; replace hz1 := hz1.keep hb; replace hB := bstep hB (Nat.le_refl _) hb; replace c0 := kcell hb c0; replace c1 := kcell hb c1; clear hb) | (go_at_call 11; (with_reducible refine (HQ.out _ hs1 hz1).mono ?_); rintro e w5 ⟨rfl, hb⟩; replace hs1 := hs1.keep hb; replace hz1 := hz1.keep hb; replace hB := bstep hB (Nat.le_refl _) hb; replace c0 := kcell hb c0; replace c1 := kcell hb c1; clear hb) | (go_at_call 12; (with_reducible refine (HR.out _ hs1 hz1).mono ?_); rintro e w5 ⟨rfl, hb⟩; replace hs1 := hs1.keep hb; replace hz1 := hz1.keep hb; replace hB := bstep hB (Nat.le_refl _) hb; replace c0 := kcell hb c0; replace c1 := kcell hb c1; clear hb) | (go_at_call 13; (with_reducible refine (HK.out _ hs1 hz1).mono ?_); rintro e w5 ⟨rfl, hb⟩; replace hs1 := hs1.keep hb; replace hz1 := hz1.keep hb; replace hB := bstep hB (Nat.le_refl _) hb; replace c0 := kcell hb c0; replace c1 := kcell hb c1; clear hb))
        go_ret
        exact ⟨rfl, hB⟩
      · by_cases h1 : 1048576 < n
        · have hst : strT n = false := decide_eq_false (by omega)
          rw [hst] at HI HK
          simp only [Bool.and_false, Bool.false_and, Bool.false_eq_true, if_false] at HI HK
          go_enter Try.func3, Try.ntmps3
          go_wp2_with (first | (go_at_call 7; (with_reducible refine (HF.out _).mono ?_); rintro e w5 ⟨rfl, rfl⟩) | (go_at_call 8; (with_reducible refine (awake_any _).mono ?_); rintro e w5 ⟨rfl, hb⟩; replace hs1 := hs1.keep hb; replace hz1 := hz1.keep hb; replace hB := bstep hB (Nat.le_refl _) hb; replace c0 := kcell hb c0; replace c1 := kcell hb c1; clear hb) | (go_at_call 10; (with_reducible refine (to_any _ _ _).mono ?_); rintro e w5 ⟨rfl, hb⟩; replace hs1 := hs1.keep hb; replace hz1 := hz1.keep hb; replace hB := bstep hB (Nat.le_refl _) hb; replace c0 := kcell hb c0; replace c1 := kcell hb c1; clear hb) | (go_at_call 9; (with_reducible refine (HI.out _ hs1 hz1).mono ?_); rintro e w5 ⟨rfl, hb⟩; replace hs1 := hs1.keep hb; replace hz1 := hz1.keep hb; replace hB := bstep hB (Nat.le_refl _) hb; replace c0 := kcell hb c0; replace c1 := kcell hb c1; clear hb) | (go_at_call 11; (with_reducible refine (HQ.out _ hs1 hz1).mono ?_); rintro e w5 ⟨rfl, hb⟩; replace hs1 := hs1.keep hb; replace hz1 := hz1.keep hb; replace hB := bstep hB (Nat.le_refl _) hb; replace c0 := kcell hb c0; replace c1 := kcell hb c1; clear hb) | (go_at_call 12; (with_reducible refine (HR.out _ hs1 hz1).mono ?_); rintro e w5 ⟨rfl, hb⟩; replace hs1 := hs1.keep hb; replace hz1 := hz1.keep hb; replace hB := bstep hB (Nat.le_refl _) hb; replace c0 := kcell hb c0; replace c1 := kcell hb c1; clear hb) | (go_at_call 13; (with_reducible refine (HK.out _ hs1 hz1).mono ?_); rintro e w5 ⟨rfl, hb⟩; replace hs1 := hs1.keep hb; replace hz1 := hz1.keep hb; replace hB := bstep hB (Nat.le_refl _) hb; replace c0 := kcell hb c0; replace c1 := kcell hb c1; clear hb))
          go_ret
          exact ⟨rfl, hB⟩
        · have hst : strT n = true := decide_eq_true (by omega)
          rw [hst] at HI HK
          simp only [Bool.and_self, Bool.true_and, if_true, firstT] at HI HK
          obtain ⟨u, rfl⟩ := Int.eq_ofNat_of_zero_le (show 0 ≤ n by omega)
          rw [Int.toNat_natCast] at HI HK
          have HG := Lib.hid (fun W hW hW2 => rFirst_yes A l c S s d b p u W hW hW2 H (by omega))
          have HL := Lib.hid (fun W hW hW2 => fBlocked_yes A l c S s d (u : Int) W hW hW2 H.all H.len H.sec)
          have HM := Lib.hid (fun W hW hW2 => rBlocked_yes A l c S s d (u : Int) W hW hW2 H.all H.len)
          have HX := Lib.hid (fun x hx => first_in (allT_mem H.all) (s := s) (b := b) (p := p) (u := u) (by omega) (x := x) hx)
          have hu0 : (0 : Int) ≤ (u : Int) := by omega
          have hu1 : (u : Int) ≤ 1048576 := by omega
          clear H hr hst h0 h1
          generalize firstV l s b p u = o at *
          generalize blkTo l s (u : Int) s.length = B at *
          cases o with
          | none =>
            simp only [Option.getD_none, Option.isSome_none, Option.isNone_none] at HI HK HG
            go_enter Try.func3, Try.ntmps3
            go_wp2_with (first | (go_at_call 7; (with_reducible refine (HF.out _).mono ?_); rintro e w5 ⟨rfl, rfl⟩) | (go_at_call 8; (with_reducible refine (awake_any _).mono ?_); rintro e w5 ⟨rfl, hb⟩; replace hs1 := hs1.keep hb; replace hz1 := hz1.keep hb; replace hB := bstep hB (Nat.le_refl _) hb; replace c0 := kcell hb c0; replace c1 := kcell hb c1; clear hb) | (go_at_call 10; (with_reducible refine (to_any _ _ _).mono ?_); rintro e w5 ⟨rfl, hb⟩; replace hs1 := hs1.keep hb; replace hz1 := hz1.keep hb; replace hB := bstep hB (Nat.le_refl _) hb; replace c0 := kcell hb c0; replace c1 := kcell hb c1; clear hb) | (go_at_call 9; (with_reducible refine (HI.out _ hs1 hz1).mono ?_); rintro e w5 ⟨rfl, hb⟩; replace hs1 := hs1.keep hb; replace hz1 := hz1.keep hb; replace hB := bstep hB (Nat.le_refl _) hb; replace c0 := kcell hb c0; replace c1 := kcell hb c1; clear hb) | (go_at_call 11; (with_reducible refine (HQ.out _ hs1 hz1).mono ?_); rintro e w5 ⟨rfl, hb⟩; replace hs1 := hs1.keep hb; replace hz1 := hz1.keep hb; replace hB := bstep hB (Nat.le_refl _) hb; replace c0 := kcell hb c0; replace c1 := kcell hb c1; clear hb) | (go_at_call 12; (with_reducible refine (HR.out _ hs1 hz1).mono ?_); rintro e w5 ⟨rfl, hb⟩; replace hs1 := hs1.keep hb; replace hz1 := hz1.keep hb; replace hB := bstep hB (Nat.le_refl _) hb; replace c0 := kcell hb c0; replace c1 := kcell hb c1; clear hb) | (go_at_call 13; (with_reducible refine (HK.out _ hs1 hz1).mono ?_); rintro e w5 ⟨rfl, hb⟩; replace hs1 := hs1.keep hb; replace hz1 := hz1.keep hb; replace hB := bstep hB (Nat.le_refl _) hb; replace c0 := kcell hb c0; replace c1 := kcell hb c1; clear hb) | (go_at_call 14; (with_reducible refine (HG.out _ hs1 hz1).mono ?_); rintro e w5 ⟨rfl, hb⟩; replace hs1 := hs1.keep hb; replace hz1 := hz1.keep hb; replace hB := bstep hB (Nat.le_refl _) hb; replace c0 := kcell hb c0; replace c1 := kcell hb c1; clear hb) | (go_at_call 15; (with_reducible refine (HL.out _ hs1 hz1).mono ?_); rintro e w5 ⟨rfl, hb⟩; replace hs1 := hs1.keep hb; replace hz1 := hz1.keep hb; replace hB := bstep hB (Nat.le_refl _) hb; replace c0 := kcell hb c0; replace c1 := kcell hb c1; clear hb) | (go_at_call 16; (with_reducible refine (HM.out _ hs1 hz1).mono ?_); rintro e w5 ⟨rfl, rfl⟩))
            go_ret
            exact ⟨rfl, hB⟩
          | some x =>
            have hx := HX.out x rfl
            clear HX
            simp only [Option.getD_some, Option.isSome_some, Option.isNone_some] at HI HK HG
            have hx0 : ¬ x < 0 := by omega
            have hx1 : (0 : Int) ≤ x := by omega
            have hx2 : decide (x < 0) = false := decide_eq_false hx0
            go_enter Try.func3, Try.ntmps3
            go_wp2_with (first | (go_at_call 7; (with_reducible refine (HF.out _).mono ?_); rintro e w5 ⟨rfl, rfl⟩) | (go_at_call 8; (with_reducible refine (awake_any _).mono ?_); rintro e w5 ⟨rfl, hb⟩; replace hs1 := hs1.keep hb; replace hz1 := hz1.keep hb; replace hB := bstep hB (Nat.le_refl _) hb; replace c0 := kcell hb c0; replace c1 := kcell hb c1; clear hb) | (go_at_call 10; (with_reducible refine (to_any _ _ _).mono ?_); rintro e w5 ⟨rfl, hb⟩; replace hs1 := hs1.keep hb; replace hz1 := hz1.keep hb; replace hB := bstep hB (Nat.le_refl _) hb; replace c0 := kcell hb c0; replace c1 := kcell hb c1; clear hb) | (go_at_call 9; (with_reducible refine (HI.out _ hs1 hz1).mono ?_); rintro e w5 ⟨rfl, hb⟩; replace hs1 := hs1.keep hb; replace hz1 := hz1.keep hb; replace hB := bstep hB (Nat.le_refl _) hb; replace c0 := kcell hb c0; replace c1 := kcell hb c1; clear hb) | (go_at_call 11; (with_reducible refine (HQ.out _ hs1 hz1).mono ?_); rintro e w5 ⟨rfl, hb⟩; replace hs1 := hs1.keep hb; replace hz1 := hz1.keep hb; replace hB := bstep hB (Nat.le_refl _) hb; replace c0 := kcell hb c0; replace c1 := kcell hb c1; clear hb) | (go_at_call 12; (with_reducible refine (HR.out _ hs1 hz1).mono ?_); rintro e w5 ⟨rfl, hb⟩; replace hs1 := hs1.keep hb; replace hz1 := hz1.keep hb; replace hB := bstep hB (Nat.le_refl _) hb; replace c0 := kcell hb c0; replace c1 := kcell hb c1; clear hb) | (go_at_call 13; (with_reducible refine (HK.out _ hs1 hz1).mono ?_); rintro e w5 ⟨rfl, hb⟩; replace hs1 := hs1.keep hb; replace hz1 := hz1.keep hb; replace hB := bstep hB (Nat.le_refl _) hb; replace c0 := kcell hb c0; replace c1 := kcell hb c1; clear hb) | (go_at_call 14; (with_reducible refine (HG.out _ hs1 hz1).mono ?_); rintro e w5 ⟨rfl, hb⟩; replace hs1 := hs1.keep hb; replace hz1 := hz1.keep hb; replace hB := bstep hB (Nat.le_refl _) hb; replace c0 := kcell hb c0; replace c1 := kcell hb c1; clear hb) | (go_at_call 15; (with_reducible refine (HL.out _ hs1 hz1).mono ?_); rintro e w5 ⟨rfl, hb⟩; replace hs1 := hs1.keep hb; replace hz1 := hz1.keep hb; replace hB := bstep hB (Nat.le_refl _) hb; replace c0 := kcell hb c0; replace c1 := kcell hb c1; clear hb) | (go_at_call 16; (with_reducible refine (HM.out _ hs1 hz1).mono ?_); rintro e w5 ⟨rfl, rfl⟩))
            go_ret
            exact ⟨rfl, hB⟩
end Go.Proofs.Ytojccjdldmjfgaa
