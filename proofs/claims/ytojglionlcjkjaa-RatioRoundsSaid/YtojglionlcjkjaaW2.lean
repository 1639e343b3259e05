/- Walks: the sum of two fractions; which is less; the sum of many. -/
import Derived.Test.YtojglionlcjkjaaW1
namespace Go.Proofs.Ytojglionlcjkjaa
open Go.RowKit

def r3A (r : Rat3) : Value := .agg #[.int .u64 (r.num : Int), .int .u64 (r.den : Int)]
theorem makeR_lt {n d : Nat} (hn : n < 18446744073709551616) (hd : d < 18446744073709551616) : (makeR n d).num < 18446744073709551616 ∧ (makeR n d).den < 18446744073709551616 :=
  ⟨Nat.lt_of_le_of_lt (Nat.div_le_self _ _) hn, Nat.lt_of_le_of_lt (Nat.div_le_self _ _) hd⟩
theorem addR_lt (an ad bn bd : Nat) : (addR an ad bn bd).num < 18446744073709551616 ∧ (addR an ad bn bd).den < 18446744073709551616 := by
  unfold addR
  split
  · split
    · rename_i h
      exact makeR_lt h.2.2.1 h.2.2.2
    · simp
  · simp
theorem addR_over {an ad bn bd : Nat} (h : rightR an ad = true) (h' : rightR bn bd = true)
    (hn : ¬ (an * (bd / Nat.gcd ad bd) < 18446744073709551616 ∧ bn * (ad / Nat.gcd ad bd) < 18446744073709551616 ∧ an * (bd / Nat.gcd ad bd) + bn * (ad / Nat.gcd ad bd) < 18446744073709551616 ∧ ad / Nat.gcd ad bd * bd < 18446744073709551616)) : addR an ad bn bd = ⟨0, 0, 24⟩ := by
  rw [addR_ok h h', if_neg hn]
theorem addR_fine {an ad bn bd : Nat} (h : rightR an ad = true) (h' : rightR bn bd = true)
    (h1 : an * (bd / Nat.gcd ad bd) < 18446744073709551616) (h2 : bn * (ad / Nat.gcd ad bd) < 18446744073709551616) (h3 : an * (bd / Nat.gcd ad bd) + bn * (ad / Nat.gcd ad bd) < 18446744073709551616) (h4 : ad / Nat.gcd ad bd * bd < 18446744073709551616) :
    addR an ad bn bd = makeR (an * (bd / Nat.gcd ad bd) + bn * (ad / Nat.gcd ad bd)) (ad / Nat.gcd ad bd * bd) := by
  rw [addR_ok h h', if_pos ⟨h1, h2, h3, h4⟩]

theorem div_val (n g : Nat) (h : n < 18446744073709551616) : IntKind.u64.wrap ((n : Int) / (g : Int)) = ((n / g : Nat) : Int) := by rw [div_wrap n g h, Int.natCast_ediv]

set_option maxRecDepth 100000 in
set_option maxHeartbeats 2000000 in
theorem add_any (an ad bn bd : Nat) (w : World) (h1 : an < 18446744073709551616) (h2 : ad < 18446744073709551616) (h3 : bn < 18446744073709551616) (h4 : bd < 18446744073709551616) :
    Calls Try.prog 7 #[.agg #[.int .u64 an, .int .u64 ad], .agg #[.int .u64 bn, .int .u64 bd]] w fun e w' => e = .returned (r3V (addR an ad bn bd)) ∧ Below w.heap.size w w' := by
  have b0 : Blk (((w.alloc (Obj.cells #[.int .u64 an, .int .u64 ad] 25)).alloc (Obj.cells #[.int .u64 bn, .int .u64 bd] 25)).alloc (Obj.cells #[.int .u64 0, .int .u64 0] 25)) w.heap.size 25 #[.int .u64 an, .int .u64 ad] := ((Blk.new _ _ _).alloc _).alloc _
  have b1 : Blk (((w.alloc (Obj.cells #[.int .u64 an, .int .u64 ad] 25)).alloc (Obj.cells #[.int .u64 bn, .int .u64 bd] 25)).alloc (Obj.cells #[.int .u64 0, .int .u64 0] 25)) (w.heap.size + 1) 25 #[.int .u64 bn, .int .u64 bd] := (Blk.new' _ _ _ (by simp)).alloc _
  have bk : Blk (((w.alloc (Obj.cells #[.int .u64 an, .int .u64 ad] 25)).alloc (Obj.cells #[.int .u64 bn, .int .u64 bd] 25)).alloc (Obj.cells #[.int .u64 0, .int .u64 0] 25)) (w.heap.size + 2) 25 #[.int .u64 0, .int .u64 0] := Blk.new' _ _ _ (by simp)
  have c0 := b0.cell 0 _ rfl
  have c1 := b0.cell 1 _ rfl
  have c2 := b1.cell 0 _ rfl
  have c3 := b1.cell 1 _ rfl
  clear b0 b1
  have hB : Below w.heap.size w (((w.alloc (Obj.cells #[.int .u64 an, .int .u64 ad] 25)).alloc (Obj.cells #[.int .u64 bn, .int .u64 bd] 25)).alloc (Obj.cells #[.int .u64 0, .int .u64 0] 25)) := ((below1 _ _).alloc (by simp) _).alloc (by simp; omega) _
  have hRa := Lib.hid (fun W => right_any an ad W h1 h2)
  have hRb := Lib.hid (fun W => right_any bn bd W h3 h4)
  cases hra : rightR an ad
  · have HA := Lib.hid (addR_bad (an := an) (ad := ad) (bn := bn) (bd := bd) (.inl hra))
    rw [hra] at hRa
    go_enter Try.func7, Try.ntmps7
    go_wp2_with (go_at_call 14; (with_reducible refine (hRa.out _).mono ?_); rintro e w2 ⟨rfl, hb⟩; replace bk := bk.keep hb; replace hB := bstep hB (Nat.le_refl _) hb; clear hb c0 c1 c2 c3; have d0 := bk.cell 0 _ rfl; have d1 := bk.cell 1 _ rfl; have f0 := bk.frozen 0; have f1 := bk.frozen 1)
    exact bodyPost_ret (v := .tuple #[.agg #[.int .u64 0, .int .u64 0], .int .i64 1]) (by simp [results, Try.results7, go_sem, d0, d1]) rfl ⟨by rw [HA.out]; rfl, (hB.setCell (by simp; omega) _).setCell (by simp; omega) _⟩
  · cases hrb : rightR bn bd
    · have HA := Lib.hid (addR_bad (an := an) (ad := ad) (bn := bn) (bd := bd) (.inr hrb))
      rw [hra] at hRa
      rw [hrb] at hRb
      go_enter Try.func7, Try.ntmps7
      go_wp2_with (first | (go_at_call 14; (with_reducible refine (hRa.out _).mono ?_); rintro e w2 ⟨rfl, hb⟩; replace c2 := kcell hb c2; replace c3 := kcell hb c3; replace bk := bk.keep hb; replace hB := bstep hB (Nat.le_refl _) hb; clear hb) | (go_at_call 14; (with_reducible refine (hRb.out _).mono ?_); rintro e w3 ⟨rfl, hb⟩; replace bk := bk.keep hb; replace hB := bstep hB (Nat.le_refl _) hb; clear hb c2 c3; have d0 := bk.cell 0 _ rfl; have d1 := bk.cell 1 _ rfl; have f0 := bk.frozen 0; have f1 := bk.frozen 1))
      exact bodyPost_ret (v := .tuple #[.agg #[.int .u64 0, .int .u64 0], .int .i64 1]) (by simp [results, Try.results7, go_sem, d0, d1]) rfl ⟨by rw [HA.out]; rfl, (hB.setCell (by simp; omega) _).setCell (by simp; omega) _⟩
    · have hpa := (rightR_t hra).1
      have hpb := (rightR_t hrb).1
      have HO := Lib.hid (addR_over hra hrb)
      have HF := Lib.hid (addR_fine hra hrb)
      rw [hra] at hRa
      rw [hrb] at hRb
      have hG := Lib.hid (fun W => divisor_any ad bd W h2 h4)
      obtain ⟨g0, g1⟩ := gcd_lt h2 h4 hpb
      have E1 := Lib.hid (div_val bd (Nat.gcd ad bd) h4)
      have E2 := Lib.hid (div_val ad (Nat.gcd ad bd) h2)
      have l1 : bd / Nat.gcd ad bd < 18446744073709551616 := Nat.lt_of_le_of_lt (Nat.div_le_self _ _) h4
      have l2 : ad / Nat.gcd ad bd < 18446744073709551616 := Nat.lt_of_le_of_lt (Nat.div_le_self _ _) h2
      have l3 : 0 < ad / Nat.gcd ad bd := Nat.div_pos (Nat.gcd_le_left bd hpa) g0
      generalize bd / Nat.gcd ad bd = p at *
      generalize ad / Nat.gcd ad bd = q at *
      generalize Nat.gcd ad bd = g at *
      have n0 : ¬ (g : Int) = 0 := by omega
      have hT1y := Lib.hid (fun W => times_yes an p W h1 l1)
      have hT1n := Lib.hid (fun W => times_no an p W h1 l1)
      have hT2y := Lib.hid (fun W => times_yes bn q W h3 l2)
      have hT2n := Lib.hid (fun W => times_no bn q W h3 l2)
      have hT3y := Lib.hid (fun W => times_yes q bd W l2 h4)
      have hT3n := Lib.hid (fun W => times_no q bd W l2 h4)
      have hD : 0 < q * bd := Nat.mul_pos l3 hpb
      generalize an * p = L at *
      generalize bn * q = R at *
      generalize q * bd = D at *
      go_enter Try.func7, Try.ntmps7
      go_wp2_with (first | (go_at_call 14; (with_reducible refine (hRa.out _).mono ?_); rintro e w2 ⟨rfl, hb⟩; replace c0 := kcell hb c0; replace c1 := kcell hb c1; replace c2 := kcell hb c2; replace c3 := kcell hb c3; replace bk := bk.keep hb; replace hB := bstep hB (Nat.le_refl _) hb; clear hb) | (go_at_call 14; (with_reducible refine (hRb.out _).mono ?_); rintro e w3 ⟨rfl, hb⟩; replace c0 := kcell hb c0; replace c1 := kcell hb c1; replace c2 := kcell hb c2; replace c3 := kcell hb c3; replace bk := bk.keep hb; replace hB := bstep hB (Nat.le_refl _) hb; clear hb) | (go_at_call 23; (with_reducible refine (hG.out _).mono ?_); rintro e w4 ⟨rfl, hb⟩; replace c0 := kcell hb c0; replace c1 := kcell hb c1; replace c2 := kcell hb c2; replace c3 := kcell hb c3; replace bk := bk.keep hb; replace hB := bstep hB (Nat.le_refl _) hb; clear hb))
      clear hRa hRb hG
      by_cases o1 : L < 18446744073709551616
      · have e1 := E1.out
        (have aft_c0 := Aft.cell c0; have aft_c1 := Aft.cell c1; have aft_c2 := Aft.cell c2; have aft_c3 := Aft.cell c3; refine wp_region_aft (by kernel_rfl) (by kernel_rfl) ?_; (repeat (go_big_quiet_step (((go_at_call 24; exact aft_same (hT1y.out _ o1)))))); refine wpQuiet_nil ?_; clear aft_c0 aft_c1 aft_c2 aft_c3; intro w5 hw2_; have hb := Aft.below hw2_; clear hw2_)
        (replace c0 := kcell hb c0; replace c1 := kcell hb c1; replace c2 := kcell hb c2; replace c3 := kcell hb c3; replace bk := bk.keep hb; replace hB := bstep hB (Nat.le_refl _) hb; clear hb; clear e1)
        go_wp2
        by_cases o2 : R < 18446744073709551616
        · have e2 := E2.out
          (have aft_c0 := Aft.cell c0; have aft_c1 := Aft.cell c1; have aft_c2 := Aft.cell c2; have aft_c3 := Aft.cell c3; refine wp_region_aft (by kernel_rfl) (by kernel_rfl) ?_; (repeat (go_big_quiet_step (((go_at_call 24; exact aft_same (hT2y.out _ o2)))))); refine wpQuiet_nil ?_; clear aft_c0 aft_c1 aft_c2 aft_c3; intro w6 hw2_; have hb := Aft.below hw2_; clear hw2_)
          (replace c0 := kcell hb c0; replace c1 := kcell hb c1; replace c2 := kcell hb c2; replace c3 := kcell hb c3; replace bk := bk.keep hb; replace hB := bstep hB (Nat.le_refl _) hb; clear hb; clear e2)
          have hadd := fun W => add64_run L R W o1 o2
          generalize L + R = M at *
          by_cases o3 : M < 18446744073709551616
          · rw [Nat.div_eq_of_lt o3, Nat.mod_eq_of_lt o3] at hadd
            go_wp2
            clear hadd
            by_cases o4 : D < 18446744073709551616
            · have e2 := E2.out
              (have aft_c0 := Aft.cell c0; have aft_c1 := Aft.cell c1; have aft_c2 := Aft.cell c2; have aft_c3 := Aft.cell c3; refine wp_region_aft (by kernel_rfl) (by kernel_rfl) ?_; (repeat (go_big_quiet_step (((go_at_call 24; exact aft_same (hT3y.out _ o4)))))); refine wpQuiet_nil ?_; clear aft_c0 aft_c1 aft_c2 aft_c3; intro w7 hw2_; have hb := Aft.below hw2_; clear hw2_)
              (replace c0 := kcell hb c0; replace c1 := kcell hb c1; replace c2 := kcell hb c2; replace c3 := kcell hb c3; replace bk := bk.keep hb; replace hB := bstep hB (Nat.le_refl _) hb; clear hb; clear e2)
              have HA := Lib.hid (HF.out o1 o2 o3 o4)
              have hOf : Hid (∀ W, Calls Try.prog 12 #[.int .u64 (M : Int), .int .u64 (D : Int)] W fun e w' => e = .returned (.tuple #[.agg #[.int .u64 ((makeR M D).num : Int), .int .u64 ((makeR M D).den : Int)], .int .i64 0]) ∧ Below W.heap.size W w') := fun W => of_any M D W o3 o4 hD
              go_wp2_with (go_at_call 12; (with_reducible refine (hOf.out _).mono ?_); rintro e w8 ⟨rfl, hb⟩; replace bk := bk.keep hb; replace hB := bstep hB (Nat.le_refl _) hb; clear hb c0 c1 c2 c3; have d0 := bk.cell 0 _ rfl; have d1 := bk.cell 1 _ rfl; have f0 := bk.frozen 0; have f1 := bk.frozen 1)
              exact bodyPost_ret (v := .tuple #[.agg #[.int .u64 ((makeR M D).num : Int), .int .u64 ((makeR M D).den : Int)], .int .i64 0]) (by simp [results, Try.results7, go_sem, d0, d1]) rfl ⟨by rw [HA.out]; rfl, (hB.setCell (by simp; omega) _).setCell (by simp; omega) _⟩
            · have e2 := E2.out
              (have aft_c0 := Aft.cell c0; have aft_c1 := Aft.cell c1; have aft_c2 := Aft.cell c2; have aft_c3 := Aft.cell c3; refine wp_region_aft (by kernel_rfl) (by kernel_rfl) ?_; (repeat (go_big_quiet_step (((go_at_call 24; exact aft_same (hT3n.out _ o4)))))); refine wpQuiet_nil ?_; clear aft_c0 aft_c1 aft_c2 aft_c3; intro w7 hw2_; have hb := Aft.below hw2_; clear hw2_)
              (replace c0 := kcell hb c0; replace c1 := kcell hb c1; replace c2 := kcell hb c2; replace c3 := kcell hb c3; replace bk := bk.keep hb; replace hB := bstep hB (Nat.le_refl _) hb; clear hb; clear e2)
              have HA := Lib.hid (HO.out (fun h => o4 h.2.2.2))
              (have d0 := bk.cell 0 _ rfl; have d1 := bk.cell 1 _ rfl; have f0 := bk.frozen 0; have f1 := bk.frozen 1)
              clear HO HF
              go_wp2
              exact bodyPost_ret (v := .tuple #[.agg #[.int .u64 0, .int .u64 0], .int .i64 24]) (by simp [results, Try.results7, go_sem, d0, d1]) rfl ⟨by rw [HA.out]; rfl, (hB.setCell (by simp; omega) _).setCell (by simp; omega) _⟩
          · have hq : 0 < M / 18446744073709551616 := Nat.div_pos (by omega) (by omega)
            generalize M / 18446744073709551616 = cy at *
            generalize M % 18446744073709551616 = sm at *
            have hcy : ((cy : Int) != 0) = true := by simp; omega
            have HA := Lib.hid (HO.out (fun h => o3 h.2.2.1))
            (have d0 := bk.cell 0 _ rfl; have d1 := bk.cell 1 _ rfl; have f0 := bk.frozen 0; have f1 := bk.frozen 1)
            clear HO HF
            go_wp2
            exact bodyPost_ret (v := .tuple #[.agg #[.int .u64 0, .int .u64 0], .int .i64 24]) (by simp [results, Try.results7, go_sem, d0, d1]) rfl ⟨by rw [HA.out]; rfl, (hB.setCell (by simp; omega) _).setCell (by simp; omega) _⟩
        · have e2 := E2.out
          (have aft_c0 := Aft.cell c0; have aft_c1 := Aft.cell c1; have aft_c2 := Aft.cell c2; have aft_c3 := Aft.cell c3; refine wp_region_aft (by kernel_rfl) (by kernel_rfl) ?_; (repeat (go_big_quiet_step (((go_at_call 24; exact aft_same (hT2n.out _ o2)))))); refine wpQuiet_nil ?_; clear aft_c0 aft_c1 aft_c2 aft_c3; intro w6 hw2_; have hb := Aft.below hw2_; clear hw2_)
          (replace c0 := kcell hb c0; replace c1 := kcell hb c1; replace c2 := kcell hb c2; replace c3 := kcell hb c3; replace bk := bk.keep hb; replace hB := bstep hB (Nat.le_refl _) hb; clear hb; clear e2)
          have HA := Lib.hid (HO.out (fun h => o2 h.2.1))
          (have d0 := bk.cell 0 _ rfl; have d1 := bk.cell 1 _ rfl; have f0 := bk.frozen 0; have f1 := bk.frozen 1)
          clear HO HF
          go_wp2
          exact bodyPost_ret (v := .tuple #[.agg #[.int .u64 0, .int .u64 0], .int .i64 24]) (by simp [results, Try.results7, go_sem, d0, d1]) rfl ⟨by rw [HA.out]; rfl, (hB.setCell (by simp; omega) _).setCell (by simp; omega) _⟩
      · have e1 := E1.out
        (have aft_c0 := Aft.cell c0; have aft_c1 := Aft.cell c1; have aft_c2 := Aft.cell c2; have aft_c3 := Aft.cell c3; refine wp_region_aft (by kernel_rfl) (by kernel_rfl) ?_; (repeat (go_big_quiet_step (((go_at_call 24; exact aft_same (hT1n.out _ o1)))))); refine wpQuiet_nil ?_; clear aft_c0 aft_c1 aft_c2 aft_c3; intro w5 hw2_; have hb := Aft.below hw2_; clear hw2_)
        (replace c0 := kcell hb c0; replace c1 := kcell hb c1; replace c2 := kcell hb c2; replace c3 := kcell hb c3; replace bk := bk.keep hb; replace hB := bstep hB (Nat.le_refl _) hb; clear hb; clear e1)
        have HA := Lib.hid (HO.out (fun h => o1 h.1))
        (have d0 := bk.cell 0 _ rfl; have d1 := bk.cell 1 _ rfl; have f0 := bk.frozen 0; have f1 := bk.frozen 1)
        clear HO HF
        go_wp2
        exact bodyPost_ret (v := .tuple #[.agg #[.int .u64 0, .int .u64 0], .int .i64 24]) (by simp [results, Try.results7, go_sem, d0, d1]) rfl ⟨by rw [HA.out]; rfl, (hB.setCell (by simp; omega) _).setCell (by simp; omega) _⟩
end Go.Proofs.Ytojglionlcjkjaa
