/- Walk: the statement RatioMakes. -/
import Derived.Test.YtojglionlcjkjaaW8
namespace Go.Proofs.Ytojglionlcjkjaa
open Go.RowKit

theorem makeR_right {n d : Nat} (h : 0 < d) : rightR (makeR n d).num (makeR n d).den = true := by
  unfold rightR makeR
  rw [decide_eq_true_eq]
  have hg : 0 < Nat.gcd n d := Nat.gcd_pos_of_pos_right n h
  refine ⟨Nat.div_pos (Nat.gcd_le_right n h) hg, ?_⟩
  simp only
  rw [Nat.gcd_div (Nat.gcd_dvd_left n d) (Nat.gcd_dvd_right n d), Nat.div_self hg]

set_option maxRecDepth 100000 in
set_option maxHeartbeats 4000000 in
theorem makes_any (num den an ad bn bd : Nat) (w : World) (q1 : num < 18446744073709551616) (q2 : den < 18446744073709551616) (h1 : an < 18446744073709551616) (h2 : ad < 18446744073709551616) (h3 : bn < 18446744073709551616) (h4 : bd < 18446744073709551616) :
    Calls Try.prog 5 #[.int .u64 num, .int .u64 den, .agg #[.int .u64 an, .int .u64 ad], .agg #[.int .u64 bn, .int .u64 bd]] w fun e w' => e = .returned (.bool true) ∧ Below w.heap.size w w' := by
  have ba : Blk ((w.alloc (Obj.cells #[.int .u64 an, .int .u64 ad] 24)).alloc (Obj.cells #[.int .u64 bn, .int .u64 bd] 24)) w.heap.size 24 #[.int .u64 an, .int .u64 ad] := (Blk.new _ _ _).alloc _
  have bb : Blk ((w.alloc (Obj.cells #[.int .u64 an, .int .u64 ad] 24)).alloc (Obj.cells #[.int .u64 bn, .int .u64 bd] 24)) (w.heap.size + 1) 24 #[.int .u64 bn, .int .u64 bd] := Blk.new' _ _ _ (by simp)
  have hB : Below w.heap.size w ((w.alloc (Obj.cells #[.int .u64 an, .int .u64 ad] 24)).alloc (Obj.cells #[.int .u64 bn, .int .u64 bd] 24)) := (below1 _ _).alloc (by simp) _
  have c0 := ba.cell 0 _ rfl
  have c1 := ba.cell 1 _ rfl
  have c2 := bb.cell 0 _ rfl
  have c3 := bb.cell 1 _ rfl
  simp only [List.getElem_toArray, List.getElem_cons_zero, List.getElem_cons_succ] at c0 c1 c2 c3
  clear ba bb
  have hRa := Lib.hid (fun W => right_any an ad W h1 h2)
  have hQa := Lib.hid (fun W => refRight_any an ad W h1 h2)
  generalize rightR an ad = ra at *
  have hX : an * bd ≤ 18446744073709551615 * 18446744073709551615 := Nat.mul_le_mul (by omega) (by omega)
  have hY : bn * ad ≤ 18446744073709551615 * 18446744073709551615 := Nat.mul_le_mul (by omega) (by omega)
  have hT1 := Lib.hid (fun W => refTimes_any an bd W h1 h4)
  have hT2 := Lib.hid (fun W => refTimes_any bn ad W h3 h2)
  have hC := Lib.hid (fun W => refCompare_any (an * bd) (bn * ad) W (by omega) (by omega))
  have hP := Lib.hid (fun W p q => compare_yes an ad bn bd W h1 h2 h3 h4 p q)
  have hN := Lib.hid (fun W p => compare_no an ad bn bd W p)
  generalize cmpI (an * bd) (bn * ad) = cv at *
  generalize wV (an * bd) = wx at *
  generalize wV (bn * ad) = wy at *
  generalize an * bd = X at *
  generalize bn * ad = Y at *
  clear hX hY
  have hra : (ra != ra) = false := by simp
  have hcv : (cv == cv) = true := by simp
  by_cases hd : den = 0
  · subst hd
    have hO := Lib.hid (fun W => of_no num W)
    go_enter Try.func5, Try.ntmps5
    go_wp2_with (go_at_call 12; (with_reducible refine (hO.out _).mono ?_); rintro e w2 ⟨rfl, hb⟩; replace c0 := kcell hb c0; replace c1 := kcell hb c1; replace c2 := kcell hb c2; replace c3 := kcell hb c3; replace hB := bstep hB (Nat.le_refl _) hb; clear hb)
    (have hb := below1 w2 (Obj.cells #[.int .u64 0, .int .u64 0] 25); replace c0 := kcell hb c0; replace c1 := kcell hb c1; replace c2 := kcell hb c2; replace c3 := kcell hb c3; replace hB := bstep hB (Nat.le_refl _) hb; clear hb)
    generalize w2.alloc (Obj.cells #[.int .u64 0, .int .u64 0] 25) = w3 at *
    (have aft_c0 := Aft.cell c0; have aft_c1 := Aft.cell c1; refine wp_region_aft (by kernel_rfl) (by kernel_rfl) ?_; (repeat (go_big_quiet_step ((first | (go_at_call 8; with_reducible exact aft_call (to_any _ _ _)) | (go_at_call 14; with_reducible exact aft_call (hRa.out _)) | (go_at_call 15; with_reducible exact aft_same (hQa.out _)))))); refine wpQuiet_nil ?_; clear aft_c0 aft_c1; intro w4 hw2_; have hb := Aft.below hw2_; clear hw2_)
    (replace c0 := kcell hb c0; replace c1 := kcell hb c1; replace c2 := kcell hb c2; replace c3 := kcell hb c3; replace hB := bstep hB (Nat.le_refl _) hb; clear hb)
    go_wp2
    (have aft_c0 := Aft.cell c0; have aft_c1 := Aft.cell c1; have aft_c2 := Aft.cell c2; have aft_c3 := Aft.cell c3; refine wp_region_aft (by kernel_rfl) (by kernel_rfl) ?_; (repeat (go_big_quiet_step ((first | (go_at_call 17; with_reducible exact aft_call (hT1.out _)) | (go_at_call 17; with_reducible exact aft_call (hT2.out _)) | (go_at_call 16; with_reducible exact aft_call (hC.out _)))))); refine wpQuiet_nil ?_; clear aft_c0 aft_c1 aft_c2 aft_c3; intro w5 hw2_; have hb := Aft.below hw2_; clear hw2_)
    (replace c0 := kcell hb c0; replace c1 := kcell hb c1; replace c2 := kcell hb c2; replace c3 := kcell hb c3; replace hB := bstep hB (Nat.le_refl _) hb; clear hb)
    by_cases z1 : ad = 0
    · have d1 : ((ad : Int) == 0) = true := by simp; omega
      have Z1 := Lib.hid z1
      clear z1
      go_wp2
      (have aft_c0 := Aft.cell c0; have aft_c1 := Aft.cell c1; have aft_c2 := Aft.cell c2; have aft_c3 := Aft.cell c3; refine wp_region_aft (by kernel_rfl) (by kernel_rfl) ?_; (repeat (go_big_quiet_step ((first | (go_at_call 8; with_reducible exact aft_call (to_any _ _ _)) | (go_at_call 18; with_reducible exact aft_call (hN.out _ (.inl Z1.out))) | (go_at_call 10; with_reducible exact aft_call (awake_any _)))))); refine wpQuiet_nil ?_; clear aft_c0 aft_c1 aft_c2 aft_c3; intro w6 hw2_; have hb := Aft.below hw2_; clear hw2_)
      (replace c0 := kcell hb c0; replace c1 := kcell hb c1; replace c2 := kcell hb c2; replace c3 := kcell hb c3; replace hB := bstep hB (Nat.le_refl _) hb; clear hb)
      go_wp2
      go_ret
      exact ⟨rfl, hB⟩
    · have d1 : ((ad : Int) == 0) = false := by simp; omega
      by_cases z2 : bd = 0
      · have d2 : ((bd : Int) == 0) = true := by simp; omega
        have Z2 := Lib.hid z2
        clear z2
        go_wp2
        (have aft_c0 := Aft.cell c0; have aft_c1 := Aft.cell c1; have aft_c2 := Aft.cell c2; have aft_c3 := Aft.cell c3; refine wp_region_aft (by kernel_rfl) (by kernel_rfl) ?_; (repeat (go_big_quiet_step ((first | (go_at_call 8; with_reducible exact aft_call (to_any _ _ _)) | (go_at_call 18; with_reducible exact aft_call (hN.out _ (.inr Z2.out))) | (go_at_call 10; with_reducible exact aft_call (awake_any _)))))); refine wpQuiet_nil ?_; clear aft_c0 aft_c1 aft_c2 aft_c3; intro w6 hw2_; have hb := Aft.below hw2_; clear hw2_)
        (replace c0 := kcell hb c0; replace c1 := kcell hb c1; replace c2 := kcell hb c2; replace c3 := kcell hb c3; replace hB := bstep hB (Nat.le_refl _) hb; clear hb)
        go_wp2
        go_ret
        exact ⟨rfl, hB⟩
      · have d2 : ((bd : Int) == 0) = false := by simp; omega
        go_wp2
        (have aft_c0 := Aft.cell c0; have aft_c1 := Aft.cell c1; have aft_c2 := Aft.cell c2; have aft_c3 := Aft.cell c3; refine wp_region_aft (by kernel_rfl) (by kernel_rfl) ?_; (repeat (go_big_quiet_step ((first | (go_at_call 8; with_reducible exact aft_call (to_any _ _ _)) | (go_at_call 18; with_reducible exact aft_call (hP.out _ (by omega) (by omega))) | (go_at_call 10; with_reducible exact aft_call (awake_any _)))))); refine wpQuiet_nil ?_; clear aft_c0 aft_c1 aft_c2 aft_c3; intro w6 hw2_; have hb := Aft.below hw2_; clear hw2_)
        (replace c0 := kcell hb c0; replace c1 := kcell hb c1; replace c2 := kcell hb c2; replace c3 := kcell hb c3; replace hB := bstep hB (Nat.le_refl _) hb; clear hb)
        go_wp2
        go_ret
        exact ⟨rfl, hB⟩
  · have hd0 : 0 < den := by omega
    have hd1 : ((den : Int) == 0) = false := by simp; omega
    have HR := makeR_right (n := num) hd0
    have hO : Hid (∀ W, Calls Try.prog 12 #[.int .u64 num, .int .u64 den] W fun e w' => e = .returned (.tuple #[.agg #[.int .u64 ((makeR num den).num : Int), .int .u64 ((makeR num den).den : Int)], .int .i64 0]) ∧ Below W.heap.size W w') := fun W => of_any num den W q1 q2 hd0
    have hM := Lib.hid (fun W => refMake_any num den W q1 q2 hd0)
    obtain ⟨m1, m2⟩ := makeR_lt q1 q2
    have hRr := Lib.hid (fun W => right_any (makeR num den).num (makeR num den).den W m1 m2)
    rw [HR] at hRr
    generalize (makeR num den).num = rn at *
    generalize (makeR num den).den = rd at *
    go_enter Try.func5, Try.ntmps5
    go_wp2_with (go_at_call 12; (with_reducible refine (hO.out _).mono ?_); rintro e w2 ⟨rfl, hb⟩; replace c0 := kcell hb c0; replace c1 := kcell hb c1; replace c2 := kcell hb c2; replace c3 := kcell hb c3; replace hB := bstep hB (Nat.le_refl _) hb; clear hb)
    have bk := Blk.new w2 25 #[.int .u64 rn, .int .u64 rd]
    (have hb := below1 w2 (Obj.cells #[.int .u64 rn, .int .u64 rd] 25); replace c0 := kcell hb c0; replace c1 := kcell hb c1; replace c2 := kcell hb c2; replace c3 := kcell hb c3; replace hB := bstep hB (Nat.le_refl _) hb; clear hb)
    generalize w2.alloc (Obj.cells #[.int .u64 rn, .int .u64 rd] 25) = w3 at *
    generalize w2.heap.size = gr at *
    have r0 := bk.cell 0 _ rfl
    have r1 := bk.cell 1 _ rfl
    simp only [List.getElem_toArray, List.getElem_cons_zero, List.getElem_cons_succ] at r0 r1
    (have aft_r0 := Aft.cell r0; have aft_r1 := Aft.cell r1; refine wp_region_aft (by kernel_rfl) (by kernel_rfl) ?_; (repeat (go_big_quiet_step ((first | (go_at_call 8; with_reducible exact aft_call (to_any _ _ _)) | (go_at_call 13; with_reducible exact aft_call (hM.out _)) | (go_at_call 14; with_reducible exact aft_call (hRr.out _)))))); refine wpQuiet_nil ?_; clear aft_r0 aft_r1; intro w3b hw2_; have hb := Aft.below hw2_; clear hw2_)
    (replace c0 := kcell hb c0; replace c1 := kcell hb c1; replace c2 := kcell hb c2; replace c3 := kcell hb c3; replace hB := bstep hB (Nat.le_refl _) hb; clear hb)
    clear r0 r1 bk
    go_wp2
    (have aft_c0 := Aft.cell c0; have aft_c1 := Aft.cell c1; refine wp_region_aft (by kernel_rfl) (by kernel_rfl) ?_; (repeat (go_big_quiet_step ((first | (go_at_call 8; with_reducible exact aft_call (to_any _ _ _)) | (go_at_call 14; with_reducible exact aft_call (hRa.out _)) | (go_at_call 15; with_reducible exact aft_same (hQa.out _)))))); refine wpQuiet_nil ?_; clear aft_c0 aft_c1; intro w4 hw2_; have hb := Aft.below hw2_; clear hw2_)
    (replace c0 := kcell hb c0; replace c1 := kcell hb c1; replace c2 := kcell hb c2; replace c3 := kcell hb c3; replace hB := bstep hB (Nat.le_refl _) hb; clear hb)
    go_wp2
    (have aft_c0 := Aft.cell c0; have aft_c1 := Aft.cell c1; have aft_c2 := Aft.cell c2; have aft_c3 := Aft.cell c3; refine wp_region_aft (by kernel_rfl) (by kernel_rfl) ?_; (repeat (go_big_quiet_step ((first | (go_at_call 17; with_reducible exact aft_call (hT1.out _)) | (go_at_call 17; with_reducible exact aft_call (hT2.out _)) | (go_at_call 16; with_reducible exact aft_call (hC.out _)))))); refine wpQuiet_nil ?_; clear aft_c0 aft_c1 aft_c2 aft_c3; intro w5 hw2_; have hb := Aft.below hw2_; clear hw2_)
    (replace c0 := kcell hb c0; replace c1 := kcell hb c1; replace c2 := kcell hb c2; replace c3 := kcell hb c3; replace hB := bstep hB (Nat.le_refl _) hb; clear hb)
    by_cases z1 : ad = 0
    · have d1 : ((ad : Int) == 0) = true := by simp; omega
      have Z1 := Lib.hid z1
      clear z1
      go_wp2
      (have aft_c0 := Aft.cell c0; have aft_c1 := Aft.cell c1; have aft_c2 := Aft.cell c2; have aft_c3 := Aft.cell c3; refine wp_region_aft (by kernel_rfl) (by kernel_rfl) ?_; (repeat (go_big_quiet_step ((first | (go_at_call 8; with_reducible exact aft_call (to_any _ _ _)) | (go_at_call 18; with_reducible exact aft_call (hN.out _ (.inl Z1.out))) | (go_at_call 10; with_reducible exact aft_call (awake_any _)))))); refine wpQuiet_nil ?_; clear aft_c0 aft_c1 aft_c2 aft_c3; intro w6 hw2_; have hb := Aft.below hw2_; clear hw2_)
      (replace c0 := kcell hb c0; replace c1 := kcell hb c1; replace c2 := kcell hb c2; replace c3 := kcell hb c3; replace hB := bstep hB (Nat.le_refl _) hb; clear hb)
      go_wp2
      go_ret
      exact ⟨rfl, hB⟩
    · have d1 : ((ad : Int) == 0) = false := by simp; omega
      by_cases z2 : bd = 0
      · have d2 : ((bd : Int) == 0) = true := by simp; omega
        have Z2 := Lib.hid z2
        clear z2
        go_wp2
        (have aft_c0 := Aft.cell c0; have aft_c1 := Aft.cell c1; have aft_c2 := Aft.cell c2; have aft_c3 := Aft.cell c3; refine wp_region_aft (by kernel_rfl) (by kernel_rfl) ?_; (repeat (go_big_quiet_step ((first | (go_at_call 8; with_reducible exact aft_call (to_any _ _ _)) | (go_at_call 18; with_reducible exact aft_call (hN.out _ (.inr Z2.out))) | (go_at_call 10; with_reducible exact aft_call (awake_any _)))))); refine wpQuiet_nil ?_; clear aft_c0 aft_c1 aft_c2 aft_c3; intro w6 hw2_; have hb := Aft.below hw2_; clear hw2_)
        (replace c0 := kcell hb c0; replace c1 := kcell hb c1; replace c2 := kcell hb c2; replace c3 := kcell hb c3; replace hB := bstep hB (Nat.le_refl _) hb; clear hb)
        go_wp2
        go_ret
        exact ⟨rfl, hB⟩
      · have d2 : ((bd : Int) == 0) = false := by simp; omega
        go_wp2
        (have aft_c0 := Aft.cell c0; have aft_c1 := Aft.cell c1; have aft_c2 := Aft.cell c2; have aft_c3 := Aft.cell c3; refine wp_region_aft (by kernel_rfl) (by kernel_rfl) ?_; (repeat (go_big_quiet_step ((first | (go_at_call 8; with_reducible exact aft_call (to_any _ _ _)) | (go_at_call 18; with_reducible exact aft_call (hP.out _ (by omega) (by omega))) | (go_at_call 10; with_reducible exact aft_call (awake_any _)))))); refine wpQuiet_nil ?_; clear aft_c0 aft_c1 aft_c2 aft_c3; intro w6 hw2_; have hb := Aft.below hw2_; clear hw2_)
        (replace c0 := kcell hb c0; replace c1 := kcell hb c1; replace c2 := kcell hb c2; replace c3 := kcell hb c3; replace hB := bstep hB (Nat.le_refl _) hb; clear hb)
        go_wp2
        go_ret
        exact ⟨rfl, hB⟩
end Go.Proofs.Ytojglionlcjkjaa
