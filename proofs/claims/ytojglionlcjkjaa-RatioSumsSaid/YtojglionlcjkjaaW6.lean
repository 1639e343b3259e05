/- Walk: the document's sum of two fractions. -/
import Derived.Test.YtojglionlcjkjaaW5
import Derived.Test.YtojglionlcjkjaaSoft4
namespace Go.Proofs.Ytojglionlcjkjaa
open Go.RowKit

set_option maxRecDepth 100000 in
set_option maxHeartbeats 8000000 in
theorem refAdd_any (an ad bn bd : Nat) (w : World) (h1 : an < 18446744073709551616) (h2 : ad < 18446744073709551616) (h3 : bn < 18446744073709551616) (h4 : bd < 18446744073709551616) :
    Calls Try.prog 9 #[.agg #[.int .u64 an, .int .u64 ad], .agg #[.int .u64 bn, .int .u64 bd]] w fun e w' => e = .returned (r3V (addR an ad bn bd)) ∧ Below w.heap.size w w' := by
  have b0 : Blk (((w.alloc (Obj.cells #[.int .u64 an, .int .u64 ad] 24)).alloc (Obj.cells #[.int .u64 bn, .int .u64 bd] 24)).alloc (Obj.cells #[.int .u64 0, .int .u64 0] 24)) w.heap.size 24 #[.int .u64 an, .int .u64 ad] := ((Blk.new _ _ _).alloc _).alloc _
  have b1 : Blk (((w.alloc (Obj.cells #[.int .u64 an, .int .u64 ad] 24)).alloc (Obj.cells #[.int .u64 bn, .int .u64 bd] 24)).alloc (Obj.cells #[.int .u64 0, .int .u64 0] 24)) (w.heap.size + 1) 24 #[.int .u64 bn, .int .u64 bd] := (Blk.new' _ _ _ (by simp)).alloc _
  have bk : Blk (((w.alloc (Obj.cells #[.int .u64 an, .int .u64 ad] 24)).alloc (Obj.cells #[.int .u64 bn, .int .u64 bd] 24)).alloc (Obj.cells #[.int .u64 0, .int .u64 0] 24)) (w.heap.size + 2) 24 #[.int .u64 0, .int .u64 0] := Blk.new' _ _ _ (by simp)
  have c0 := b0.cell 0 _ rfl
  have c1 := b0.cell 1 _ rfl
  have c2 := b1.cell 0 _ rfl
  have c3 := b1.cell 1 _ rfl
  simp only [List.getElem_toArray, List.getElem_cons_zero, List.getElem_cons_succ] at c0 c1 c2 c3
  clear b0 b1
  have hB : Below w.heap.size w (((w.alloc (Obj.cells #[.int .u64 an, .int .u64 ad] 24)).alloc (Obj.cells #[.int .u64 bn, .int .u64 bd] 24)).alloc (Obj.cells #[.int .u64 0, .int .u64 0] 24)) := ((below1 _ _).alloc (by simp) _).alloc (by simp; omega) _
  have hRa := Lib.hid (fun W => refRight_any an ad W h1 h2)
  have hRb := Lib.hid (fun W => refRight_any bn bd W h3 h4)
  cases hra : rightR an ad
  · have HA := Lib.hid (addR_bad (an := an) (ad := ad) (bn := bn) (bd := bd) (.inl hra))
    rw [hra] at hRa
    (have d0 := bk.cell 0 _ rfl; have d1 := bk.cell 1 _ rfl; have f0 := bk.frozen 0; have f1 := bk.frozen 1)
    go_enter Try.func9, Try.ntmps9
    go_wp2_with (go_at_call 15; (with_reducible refine (hRa.out _).mono ?_); rintro e w2 ⟨rfl, rfl⟩)
    exact bodyPost_ret (v := .tuple #[.agg #[.int .u64 0, .int .u64 0], .int .i64 1]) (by simp [results, Try.results9, go_sem]) rfl ⟨by rw [HA.out]; rfl, hB⟩
  · cases hrb : rightR bn bd
    · have HA := Lib.hid (addR_bad (an := an) (ad := ad) (bn := bn) (bd := bd) (.inr hrb))
      rw [hra] at hRa
      rw [hrb] at hRb
      go_enter Try.func9, Try.ntmps9
      go_wp2_with (first | (go_at_call 15; (with_reducible refine (hRa.out _).mono ?_); rintro e w2 ⟨rfl, rfl⟩) | (go_at_call 15; (with_reducible refine (hRb.out _).mono ?_); rintro e w3 ⟨rfl, rfl⟩))
      exact bodyPost_ret (v := .tuple #[.agg #[.int .u64 0, .int .u64 0], .int .i64 1]) (by simp [results, Try.results9, go_sem]) rfl ⟨by rw [HA.out]; rfl, hB⟩
    · have hpa := (rightR_t hra).1
      have hpb := (rightR_t hrb).1
      have HO := Lib.hid (addR_over hra hrb)
      have HF := Lib.hid (addR_fine hra hrb)
      rw [hra] at hRa
      rw [hrb] at hRb
      have hG := Lib.hid (fun W => common_any ad bd W h2 h4)
      obtain ⟨g0, g1⟩ := gcd_lt h2 h4 hpb
      have E1 := Lib.hid (div_val bd (Nat.gcd ad bd) h4)
      have E2 := Lib.hid (div_val ad (Nat.gcd ad bd) h2)
      have l1 : bd / Nat.gcd ad bd < 18446744073709551616 := Nat.lt_of_le_of_lt (Nat.div_le_self _ _) h4
      have l2 : ad / Nat.gcd ad bd < 18446744073709551616 := Nat.lt_of_le_of_lt (Nat.div_le_self _ _) h2
      have l3 : 0 < ad / Nat.gcd ad bd := Nat.div_pos (Nat.gcd_le_left bd hpa) g0
      generalize bd / Nat.gcd ad bd = p at *
      generalize ad / Nat.gcd ad bd = q at *
      generalize Nat.gcd ad bd = g at *
      have n0 : ¬ (g : Int) = 0 := by omega
      have hD : 0 < q * bd := Nat.mul_pos l3 hpb
      have hX : an * p ≤ 18446744073709551615 * 18446744073709551615 := Nat.mul_le_mul (by omega) (by omega)
      have hY : bn * q ≤ 18446744073709551615 * 18446744073709551615 := Nat.mul_le_mul (by omega) (by omega)
      have hV : q * bd ≤ 18446744073709551615 * 18446744073709551615 := Nat.mul_le_mul (by omega) (by omega)
      have hT1 := Lib.hid (fun W => refTimes_any an p W h1 l1)
      have hT2 := Lib.hid (fun W => refTimes_any bn q W h3 l2)
      have hT3 := Lib.hid (fun W => refTimes_any q bd W l2 h4)
      generalize an * p = X at *
      generalize bn * q = Y at *
      generalize q * bd = V at *
      have hWx := Lib.hid (fun W => word_any X W (by omega))
      have hWy := Lib.hid (fun W => word_any Y W (by omega))
      have hPl := Lib.hid (fun W => plus_any X Y W (by omega) (by omega))
      have hZ2 : (X + Y) % 340282366920938463463374607431768211456 < 340282366920938463463374607431768211456 := Nat.mod_lt _ (by omega)
      have hWz := Lib.hid (fun W => word_any ((X + Y) % 340282366920938463463374607431768211456) W hZ2)
      have hWv := Lib.hid (fun W => word_any V W (by omega))
      have HZ : Hid (X < 18446744073709551616 → Y < 18446744073709551616 → (X + Y) % 340282366920938463463374607431768211456 = X + Y) := by unfold Hid; omega
      have hMk := Lib.hid (fun W (hz : (X + Y) % 340282366920938463463374607431768211456 < 18446744073709551616) (hv : V < 18446744073709551616) => refMake_any ((X + Y) % 340282366920938463463374607431768211456) V W hz hv hD)
      generalize (X + Y) % 340282366920938463463374607431768211456 = Z at *
      unfold wV at hT1 hT2 hT3 hWx hWy hPl hWz hWv
      generalize ((X % 4294967296 : Nat) : Int) = x0 at *
      generalize ((X / 4294967296 % 4294967296 : Nat) : Int) = x1 at *
      generalize ((X / 18446744073709551616 % 4294967296 : Nat) : Int) = x2 at *
      generalize ((X / 79228162514264337593543950336 : Nat) : Int) = x3 at *
      generalize ((Y % 4294967296 : Nat) : Int) = y0 at *
      generalize ((Y / 4294967296 % 4294967296 : Nat) : Int) = y1 at *
      generalize ((Y / 18446744073709551616 % 4294967296 : Nat) : Int) = y2 at *
      generalize ((Y / 79228162514264337593543950336 : Nat) : Int) = y3 at *
      generalize ((Z % 4294967296 : Nat) : Int) = z0 at *
      generalize ((Z / 4294967296 % 4294967296 : Nat) : Int) = z1 at *
      generalize ((Z / 18446744073709551616 % 4294967296 : Nat) : Int) = z2 at *
      generalize ((Z / 79228162514264337593543950336 : Nat) : Int) = z3 at *
      generalize ((V % 4294967296 : Nat) : Int) = v0 at *
      generalize ((V / 4294967296 % 4294967296 : Nat) : Int) = v1 at *
      generalize ((V / 18446744073709551616 % 4294967296 : Nat) : Int) = v2 at *
      generalize ((V / 79228162514264337593543950336 : Nat) : Int) = v3 at *
      obtain ⟨bx, Hbx⟩ : ∃ b, Hid (b = decide (X < 18446744073709551616)) := ⟨_, rfl⟩
      obtain ⟨by_, Hby⟩ : ∃ b, Hid (b = decide (Y < 18446744073709551616)) := ⟨_, rfl⟩
      obtain ⟨bz, Hbz⟩ : ∃ b, Hid (b = decide (Z < 18446744073709551616)) := ⟨_, rfl⟩
      obtain ⟨bv, Hbv⟩ : ∃ b, Hid (b = decide (V < 18446744073709551616)) := ⟨_, rfl⟩
      have HZm : Hid (Z < 18446744073709551616 → ((Z % 18446744073709551616 : Nat) : Int) = Z) := by unfold Hid; omega
      have HVm : Hid (V < 18446744073709551616 → ((V % 18446744073709551616 : Nat) : Int) = V) := by unfold Hid; omega
      rw [← Hbx.out] at hWx
      rw [← Hby.out] at hWy
      rw [← Hbz.out] at hWz
      rw [← Hbv.out] at hWv
      generalize ((X % 18446744073709551616 : Nat) : Int) = xm at *
      generalize ((Y % 18446744073709551616 : Nat) : Int) = ym at *
      generalize ((Z % 18446744073709551616 : Nat) : Int) = zm at *
      generalize ((V % 18446744073709551616 : Nat) : Int) = vm at *
      go_enter Try.func9, Try.ntmps9
      go_wp2_with (first | (go_at_call 15; (with_reducible refine (hRa.out _).mono ?_); rintro e w2 ⟨rfl, rfl⟩) | (go_at_call 15; (with_reducible refine (hRb.out _).mono ?_); rintro e w3 ⟨rfl, rfl⟩) | (go_at_call 26; (with_reducible refine (hG.out _).mono ?_); rintro e w4 ⟨rfl, rfl⟩))
      clear hRa hRb hG
      generalize (((w.alloc (Obj.cells #[.int .u64 an, .int .u64 ad] 24)).alloc (Obj.cells #[.int .u64 bn, .int .u64 bd] 24)).alloc (Obj.cells #[.int .u64 0, .int .u64 0] 24)) = W0 at *
      have e1 := E1.out
      have e2 := E2.out
      have n00 : ¬ g = 0 := by omega
      have aft_c0 := Aft.cell c0
      have aft_c1 := Aft.cell c1
      have aft_c2 := Aft.cell c2
      have aft_c3 := Aft.cell c3
      refine wp_region_soft [7, 8] (fun d => if d = 7 then ⟨43, fun g => .pointer (some ⟨g, 0, none⟩), #[.int .u64 0, .int .u64 0, .int .u64 0, .int .u64 0], #[.int .u64 x0, .int .u64 x1, .int .u64 x2, .int .u64 x3]⟩ else ⟨43, fun g => .pointer (some ⟨g, 0, none⟩), #[.int .u64 0, .int .u64 0, .int .u64 0, .int .u64 0], #[.int .u64 y0, .int .u64 y1, .int .u64 y2, .int .u64 y3]⟩) 97 (by kernel_rfl) (by kernel_rfl) (by rfl) ?_
      repeat (first | (refine sh_q (by rfl) (by rfl) (by rfl) (fun K hK => ?_); go_big_quiet_op; refine hK _ ?_; clear hK K) | (refine sh_skip (by rfl) (by rfl) ?_; (try simp only [Act.put, List.setIfInBounds_toArray, List.set_cons_zero, List.set_cons_succ])) | (refine sh_call (by rfl) (by rfl) (by rfl) (fun K hK => ?_); go_simp; (try simp only [CUp, true_and]); first | (apply Exists.intro; refine ⟨fun n => ?_, hK _ ?_⟩; (with_reducible exact hT1.out _); clear hK K; (try simp only [Act.put, List.setIfInBounds_toArray, List.set_cons_zero, List.set_cons_succ])) | (apply Exists.intro; refine ⟨fun n => ?_, hK _ ?_⟩; (with_reducible exact hT2.out _); clear hK K; (try simp only [Act.put, List.setIfInBounds_toArray, List.set_cons_zero, List.set_cons_succ])) | (apply Exists.intro; refine ⟨fun n => rfl, hK _ ?_⟩; clear hK K; (try simp only [Act.put, List.setIfInBounds_toArray, List.set_cons_zero, List.set_cons_succ]))) | (refine sh_m 7 (by rfl) (fun n => by go_simp) ?_; (try simp only [Act.put, List.setIfInBounds_toArray, List.set_cons_zero, List.set_cons_succ])) | (refine sh_m 8 (by rfl) (fun n => by go_simp) ?_; (try simp only [Act.put, List.setIfInBounds_toArray, List.set_cons_zero, List.set_cons_succ])) | (refine sh_s 7 (by rfl) (fun g w hb => ⟨((((w.setCell ⟨g, 0, none⟩ (.int .u64 x0)).setCell ⟨g, 1, none⟩ (.int .u64 x1)).setCell ⟨g, 2, none⟩ (.int .u64 x2)).setCell ⟨g, 3, none⟩ (.int .u64 x3)), by (have b0 := hb.cell 0 (.int .u64 0) rfl; have f0 := hb.frozen 0; have b1 := hb.cell 1 (.int .u64 0) rfl; have f1 := hb.frozen 1; have b2 := hb.cell 2 (.int .u64 0) rfl; have f2 := hb.frozen 2; have b3 := hb.cell 3 (.int .u64 0) rfl; have f3 := hb.frozen 3; go_simp), by (have hb2 := ((((hb.set_ 0 (.int .u64 x0)).set_ 1 (.int .u64 x1)).set_ 2 (.int .u64 x2)).set_ 3 (.int .u64 x3)); simpa using hb2), only_set (only_set (only_set (only_set (only_refl w g) 0 (.int .u64 x0)) 1 (.int .u64 x1)) 2 (.int .u64 x2)) 3 (.int .u64 x3)⟩) ?_; (try simp only [Act.put, List.setIfInBounds_toArray, List.set_cons_zero, List.set_cons_succ])) | (refine sh_s 8 (by rfl) (fun g w hb => ⟨((((w.setCell ⟨g, 0, none⟩ (.int .u64 y0)).setCell ⟨g, 1, none⟩ (.int .u64 y1)).setCell ⟨g, 2, none⟩ (.int .u64 y2)).setCell ⟨g, 3, none⟩ (.int .u64 y3)), by (have b0 := hb.cell 0 (.int .u64 0) rfl; have f0 := hb.frozen 0; have b1 := hb.cell 1 (.int .u64 0) rfl; have f1 := hb.frozen 1; have b2 := hb.cell 2 (.int .u64 0) rfl; have f2 := hb.frozen 2; have b3 := hb.cell 3 (.int .u64 0) rfl; have f3 := hb.frozen 3; go_simp), by (have hb2 := ((((hb.set_ 0 (.int .u64 y0)).set_ 1 (.int .u64 y1)).set_ 2 (.int .u64 y2)).set_ 3 (.int .u64 y3)); simpa using hb2), only_set (only_set (only_set (only_set (only_refl w g) 0 (.int .u64 y0)) 1 (.int .u64 y1)) 2 (.int .u64 y2)) 3 (.int .u64 y3)⟩) ?_; (try simp only [Act.put, List.setIfInBounds_toArray, List.set_cons_zero, List.set_cons_succ])))
      refine sh_end ?_
      intro γ w5 hb hmem hinj
      have hm7 := hmem 7 (by simp)
      have hm8 := hmem 8 (by simp)
      have ne7_8 : γ 7 ≠ γ 8 := fun e => by have := hinj 7 (by simp) 8 (by simp) e; omega
      clear hmem hinj aft_c0 aft_c1 aft_c2 aft_c3
      simp only [putM, Act.put, List.setIfInBounds_toArray, List.set_cons_zero, List.set_cons_succ, reduceIte, Nat.reduceEqDiff]
      simp only [reduceIte, Nat.reduceEqDiff] at hm7 hm8
      generalize γ 7 = g7 at *
      generalize γ 8 = g8 at *
      clear γ
      (replace c1 := kcell hb c1; replace c3 := kcell hb c3; replace bk := bk.keep hb; replace hB := bstep hB (Nat.le_refl _) hb; clear hb c0 c2)
      have xc0 := hm7.2.cell 0 (.int .u64 x0) rfl
      have xc1 := hm7.2.cell 1 (.int .u64 x1) rfl
      have xc2 := hm7.2.cell 2 (.int .u64 x2) rfl
      have xc3 := hm7.2.cell 3 (.int .u64 x3) rfl
      have yc0 := hm8.2.cell 0 (.int .u64 y0) rfl
      have yc1 := hm8.2.cell 1 (.int .u64 y1) rfl
      have yc2 := hm8.2.cell 2 (.int .u64 y2) rfl
      have yc3 := hm8.2.cell 3 (.int .u64 y3) rfl
      clear hm7 hm8 hT1 hT2
      by_cases o1 : X < 18446744073709551616
      · obtain rfl : bx = true := by rw [Hbx.out]; simp [o1]
        by_cases o2 : Y < 18446744073709551616
        · obtain rfl : by_ = true := by rw [Hby.out]; simp [o2]
          have hZ := HZ.out o1 o2
          by_cases o3 : Z < 18446744073709551616
          · obtain rfl : bz = true := by rw [Hbz.out]; simp [o3]
            obtain rfl : zm = Z := HZm.out o3
            by_cases o4 : V < 18446744073709551616
            · obtain rfl : bv = true := by rw [Hbv.out]; simp [o4]
              obtain rfl : vm = V := HVm.out o4
              have HA := Lib.hid (HF.out o1 o2 (by rw [← hZ]; exact o3) o4)
              rw [← hZ] at HA
              have hM2 := Lib.hid (fun W => hMk.out W o3 o4)
              have HV : Hid (r3V (addR an ad bn bd) = .tuple #[.agg #[.int .u64 ((makeR Z V).num : Int), .int .u64 ((makeR Z V).den : Int)], .int .i64 0]) := by unfold Hid; rw [HA.out]; rfl
              generalize (makeR Z V).num = rn at *
              generalize (makeR Z V).den = rd at *
              clear hZ HO HF HZ
              go_wp2_with (first | (go_at_call 27; (with_reducible refine (hWx.out _).mono ?_); rintro e w6 ⟨rfl, hb⟩; replace c1 := kcell hb c1; replace c3 := kcell hb c3; replace xc0 := kcell hb xc0; replace xc1 := kcell hb xc1; replace xc2 := kcell hb xc2; replace xc3 := kcell hb xc3; replace yc0 := kcell hb yc0; replace yc1 := kcell hb yc1; replace yc2 := kcell hb yc2; replace yc3 := kcell hb yc3; replace bk := bk.keep hb; replace hB := bstep hB (Nat.le_refl _) hb; clear hb) | (go_at_call 27; (with_reducible refine (hWy.out _).mono ?_); rintro e w7 ⟨rfl, hb⟩; replace c1 := kcell hb c1; replace c3 := kcell hb c3; replace xc0 := kcell hb xc0; replace xc1 := kcell hb xc1; replace xc2 := kcell hb xc2; replace xc3 := kcell hb xc3; replace yc0 := kcell hb yc0; replace yc1 := kcell hb yc1; replace yc2 := kcell hb yc2; replace yc3 := kcell hb yc3; replace bk := bk.keep hb; replace hB := bstep hB (Nat.le_refl _) hb; clear hb) | (go_at_call 28; (with_reducible refine (hPl.out _).mono ?_); rintro e w8 ⟨rfl, hb⟩; replace c1 := kcell hb c1; replace c3 := kcell hb c3; replace xc0 := kcell hb xc0; replace xc1 := kcell hb xc1; replace xc2 := kcell hb xc2; replace xc3 := kcell hb xc3; replace yc0 := kcell hb yc0; replace yc1 := kcell hb yc1; replace yc2 := kcell hb yc2; replace yc3 := kcell hb yc3; replace bk := bk.keep hb; replace hB := bstep hB (Nat.le_refl _) hb; clear hb) | (go_at_call 27; (with_reducible refine (hWz.out _).mono ?_); rintro e w9 ⟨rfl, hb⟩; replace c1 := kcell hb c1; replace c3 := kcell hb c3; replace xc0 := kcell hb xc0; replace xc1 := kcell hb xc1; replace xc2 := kcell hb xc2; replace xc3 := kcell hb xc3; replace yc0 := kcell hb yc0; replace yc1 := kcell hb yc1; replace yc2 := kcell hb yc2; replace yc3 := kcell hb yc3; replace bk := bk.keep hb; replace hB := bstep hB (Nat.le_refl _) hb; clear hb))
              (have aft_c1 := Aft.cell c1; have aft_c3 := Aft.cell c3; refine wp_region_aft (by kernel_rfl) (by kernel_rfl) ?_; (repeat (go_big_quiet_step ((first | (go_at_call 17; with_reducible exact aft_call (hT3.out _)) | (go_at_call 27; with_reducible exact aft_call (hWv.out _)))))); refine wpQuiet_nil ?_; clear aft_c1 aft_c3; intro w10 hw2_; have hb := Aft.below hw2_; clear hw2_)
              (replace bk := bk.keep hb; replace hB := bstep hB (Nat.le_refl _) hb; clear hb; have d0 := bk.cell 0 _ rfl; have d1 := bk.cell 1 _ rfl; have f0 := bk.frozen 0; have f1 := bk.frozen 1)
              go_wp2_with (go_at_call 13; (with_reducible refine (hM2.out _).mono ?_); rintro e w11 ⟨rfl, hb⟩; clear d0 d1 f0 f1; replace bk := bk.keep hb; replace hB := bstep hB (Nat.le_refl _) hb; clear hb; have d0 := bk.cell 0 _ rfl; have d1 := bk.cell 1 _ rfl; have f0 := bk.frozen 0; have f1 := bk.frozen 1)
              exact bodyPost_ret (v := .tuple #[.agg #[.int .u64 (rn : Int), .int .u64 (rd : Int)], .int .i64 0]) (by simp [results, Try.results9, go_sem, d0, d1]) rfl ⟨by rw [HV.out], (hB.setCell (by simp; omega) _).setCell (by simp; omega) _⟩
            · obtain rfl : bv = false := by rw [Hbv.out]; simp [o4]
              have HA := Lib.hid (HO.out (fun h => o4 h.2.2.2))
              clear hZ HO HF HZ
              go_wp2_with (first | (go_at_call 27; (with_reducible refine (hWx.out _).mono ?_); rintro e w6 ⟨rfl, hb⟩; replace c1 := kcell hb c1; replace c3 := kcell hb c3; replace xc0 := kcell hb xc0; replace xc1 := kcell hb xc1; replace xc2 := kcell hb xc2; replace xc3 := kcell hb xc3; replace yc0 := kcell hb yc0; replace yc1 := kcell hb yc1; replace yc2 := kcell hb yc2; replace yc3 := kcell hb yc3; replace bk := bk.keep hb; replace hB := bstep hB (Nat.le_refl _) hb; clear hb) | (go_at_call 27; (with_reducible refine (hWy.out _).mono ?_); rintro e w7 ⟨rfl, hb⟩; replace c1 := kcell hb c1; replace c3 := kcell hb c3; replace xc0 := kcell hb xc0; replace xc1 := kcell hb xc1; replace xc2 := kcell hb xc2; replace xc3 := kcell hb xc3; replace yc0 := kcell hb yc0; replace yc1 := kcell hb yc1; replace yc2 := kcell hb yc2; replace yc3 := kcell hb yc3; replace bk := bk.keep hb; replace hB := bstep hB (Nat.le_refl _) hb; clear hb) | (go_at_call 28; (with_reducible refine (hPl.out _).mono ?_); rintro e w8 ⟨rfl, hb⟩; replace c1 := kcell hb c1; replace c3 := kcell hb c3; replace xc0 := kcell hb xc0; replace xc1 := kcell hb xc1; replace xc2 := kcell hb xc2; replace xc3 := kcell hb xc3; replace yc0 := kcell hb yc0; replace yc1 := kcell hb yc1; replace yc2 := kcell hb yc2; replace yc3 := kcell hb yc3; replace bk := bk.keep hb; replace hB := bstep hB (Nat.le_refl _) hb; clear hb) | (go_at_call 27; (with_reducible refine (hWz.out _).mono ?_); rintro e w9 ⟨rfl, hb⟩; replace c1 := kcell hb c1; replace c3 := kcell hb c3; replace xc0 := kcell hb xc0; replace xc1 := kcell hb xc1; replace xc2 := kcell hb xc2; replace xc3 := kcell hb xc3; replace yc0 := kcell hb yc0; replace yc1 := kcell hb yc1; replace yc2 := kcell hb yc2; replace yc3 := kcell hb yc3; replace bk := bk.keep hb; replace hB := bstep hB (Nat.le_refl _) hb; clear hb))
              (have aft_c1 := Aft.cell c1; have aft_c3 := Aft.cell c3; refine wp_region_aft (by kernel_rfl) (by kernel_rfl) ?_; (repeat (go_big_quiet_step ((first | (go_at_call 17; with_reducible exact aft_call (hT3.out _)) | (go_at_call 27; with_reducible exact aft_call (hWv.out _)))))); refine wpQuiet_nil ?_; clear aft_c1 aft_c3; intro w10 hw2_; have hb := Aft.below hw2_; clear hw2_)
              (replace bk := bk.keep hb; replace hB := bstep hB (Nat.le_refl _) hb; clear hb; have d0 := bk.cell 0 _ rfl; have d1 := bk.cell 1 _ rfl; have f0 := bk.frozen 0; have f1 := bk.frozen 1)
              go_wp2
              exact bodyPost_ret (v := .tuple #[.agg #[.int .u64 0, .int .u64 0], .int .i64 24]) (by simp [results, Try.results9, go_sem, d0, d1]) rfl ⟨by rw [HA.out]; rfl, (hB.setCell (by simp; omega) _).setCell (by simp; omega) _⟩
          · obtain rfl : bz = false := by rw [Hbz.out]; simp [o3]
            have HA := Lib.hid (HO.out (fun h => o3 (by rw [hZ]; exact h.2.2.1)))
            clear hZ HO HF HZ
            go_wp2_with (first | (go_at_call 27; (with_reducible refine (hWx.out _).mono ?_); rintro e w6 ⟨rfl, hb⟩; replace c1 := kcell hb c1; replace c3 := kcell hb c3; replace xc0 := kcell hb xc0; replace xc1 := kcell hb xc1; replace xc2 := kcell hb xc2; replace xc3 := kcell hb xc3; replace yc0 := kcell hb yc0; replace yc1 := kcell hb yc1; replace yc2 := kcell hb yc2; replace yc3 := kcell hb yc3; replace bk := bk.keep hb; replace hB := bstep hB (Nat.le_refl _) hb; clear hb) | (go_at_call 27; (with_reducible refine (hWy.out _).mono ?_); rintro e w7 ⟨rfl, hb⟩; replace c1 := kcell hb c1; replace c3 := kcell hb c3; replace xc0 := kcell hb xc0; replace xc1 := kcell hb xc1; replace xc2 := kcell hb xc2; replace xc3 := kcell hb xc3; replace yc0 := kcell hb yc0; replace yc1 := kcell hb yc1; replace yc2 := kcell hb yc2; replace yc3 := kcell hb yc3; replace bk := bk.keep hb; replace hB := bstep hB (Nat.le_refl _) hb; clear hb) | (go_at_call 28; (with_reducible refine (hPl.out _).mono ?_); rintro e w8 ⟨rfl, hb⟩; replace c1 := kcell hb c1; replace c3 := kcell hb c3; replace xc0 := kcell hb xc0; replace xc1 := kcell hb xc1; replace xc2 := kcell hb xc2; replace xc3 := kcell hb xc3; replace yc0 := kcell hb yc0; replace yc1 := kcell hb yc1; replace yc2 := kcell hb yc2; replace yc3 := kcell hb yc3; replace bk := bk.keep hb; replace hB := bstep hB (Nat.le_refl _) hb; clear hb) | (go_at_call 27; (with_reducible refine (hWz.out _).mono ?_); rintro e w9 ⟨rfl, hb⟩; replace c1 := kcell hb c1; replace c3 := kcell hb c3; replace xc0 := kcell hb xc0; replace xc1 := kcell hb xc1; replace xc2 := kcell hb xc2; replace xc3 := kcell hb xc3; replace yc0 := kcell hb yc0; replace yc1 := kcell hb yc1; replace yc2 := kcell hb yc2; replace yc3 := kcell hb yc3; replace bk := bk.keep hb; replace hB := bstep hB (Nat.le_refl _) hb; clear hb))
            (have aft_c1 := Aft.cell c1; have aft_c3 := Aft.cell c3; refine wp_region_aft (by kernel_rfl) (by kernel_rfl) ?_; (repeat (go_big_quiet_step ((first | (go_at_call 17; with_reducible exact aft_call (hT3.out _)) | (go_at_call 27; with_reducible exact aft_call (hWv.out _)))))); refine wpQuiet_nil ?_; clear aft_c1 aft_c3; intro w10 hw2_; have hb := Aft.below hw2_; clear hw2_)
            (replace bk := bk.keep hb; replace hB := bstep hB (Nat.le_refl _) hb; clear hb; have d0 := bk.cell 0 _ rfl; have d1 := bk.cell 1 _ rfl; have f0 := bk.frozen 0; have f1 := bk.frozen 1)
            go_wp2
            exact bodyPost_ret (v := .tuple #[.agg #[.int .u64 0, .int .u64 0], .int .i64 24]) (by simp [results, Try.results9, go_sem, d0, d1]) rfl ⟨by rw [HA.out]; rfl, (hB.setCell (by simp; omega) _).setCell (by simp; omega) _⟩
        · obtain rfl : by_ = false := by rw [Hby.out]; simp [o2]
          have HA := Lib.hid (HO.out (fun h => o2 h.2.1))
          clear HO HF HZ
          go_wp2_with (first | (go_at_call 27; (with_reducible refine (hWx.out _).mono ?_); rintro e w6 ⟨rfl, hb⟩; replace c1 := kcell hb c1; replace c3 := kcell hb c3; replace xc0 := kcell hb xc0; replace xc1 := kcell hb xc1; replace xc2 := kcell hb xc2; replace xc3 := kcell hb xc3; replace yc0 := kcell hb yc0; replace yc1 := kcell hb yc1; replace yc2 := kcell hb yc2; replace yc3 := kcell hb yc3; replace bk := bk.keep hb; replace hB := bstep hB (Nat.le_refl _) hb; clear hb) | (go_at_call 27; (with_reducible refine (hWy.out _).mono ?_); rintro e w7 ⟨rfl, hb⟩; replace c1 := kcell hb c1; replace c3 := kcell hb c3; replace xc0 := kcell hb xc0; replace xc1 := kcell hb xc1; replace xc2 := kcell hb xc2; replace xc3 := kcell hb xc3; replace yc0 := kcell hb yc0; replace yc1 := kcell hb yc1; replace yc2 := kcell hb yc2; replace yc3 := kcell hb yc3; replace bk := bk.keep hb; replace hB := bstep hB (Nat.le_refl _) hb; clear hb) | (go_at_call 28; (with_reducible refine (hPl.out _).mono ?_); rintro e w8 ⟨rfl, hb⟩; replace c1 := kcell hb c1; replace c3 := kcell hb c3; replace xc0 := kcell hb xc0; replace xc1 := kcell hb xc1; replace xc2 := kcell hb xc2; replace xc3 := kcell hb xc3; replace yc0 := kcell hb yc0; replace yc1 := kcell hb yc1; replace yc2 := kcell hb yc2; replace yc3 := kcell hb yc3; replace bk := bk.keep hb; replace hB := bstep hB (Nat.le_refl _) hb; clear hb) | (go_at_call 27; (with_reducible refine (hWz.out _).mono ?_); rintro e w9 ⟨rfl, hb⟩; replace c1 := kcell hb c1; replace c3 := kcell hb c3; replace xc0 := kcell hb xc0; replace xc1 := kcell hb xc1; replace xc2 := kcell hb xc2; replace xc3 := kcell hb xc3; replace yc0 := kcell hb yc0; replace yc1 := kcell hb yc1; replace yc2 := kcell hb yc2; replace yc3 := kcell hb yc3; replace bk := bk.keep hb; replace hB := bstep hB (Nat.le_refl _) hb; clear hb))
          (have aft_c1 := Aft.cell c1; have aft_c3 := Aft.cell c3; refine wp_region_aft (by kernel_rfl) (by kernel_rfl) ?_; (repeat (go_big_quiet_step ((first | (go_at_call 17; with_reducible exact aft_call (hT3.out _)) | (go_at_call 27; with_reducible exact aft_call (hWv.out _)))))); refine wpQuiet_nil ?_; clear aft_c1 aft_c3; intro w10 hw2_; have hb := Aft.below hw2_; clear hw2_)
          (replace bk := bk.keep hb; replace hB := bstep hB (Nat.le_refl _) hb; clear hb; have d0 := bk.cell 0 _ rfl; have d1 := bk.cell 1 _ rfl; have f0 := bk.frozen 0; have f1 := bk.frozen 1)
          go_wp2
          exact bodyPost_ret (v := .tuple #[.agg #[.int .u64 0, .int .u64 0], .int .i64 24]) (by simp [results, Try.results9, go_sem, d0, d1]) rfl ⟨by rw [HA.out]; rfl, (hB.setCell (by simp; omega) _).setCell (by simp; omega) _⟩
      · obtain rfl : bx = false := by rw [Hbx.out]; simp [o1]
        have HA := Lib.hid (HO.out (fun h => o1 h.1))
        clear HO HF HZ
        go_wp2_with (first | (go_at_call 27; (with_reducible refine (hWx.out _).mono ?_); rintro e w6 ⟨rfl, hb⟩; replace c1 := kcell hb c1; replace c3 := kcell hb c3; replace xc0 := kcell hb xc0; replace xc1 := kcell hb xc1; replace xc2 := kcell hb xc2; replace xc3 := kcell hb xc3; replace yc0 := kcell hb yc0; replace yc1 := kcell hb yc1; replace yc2 := kcell hb yc2; replace yc3 := kcell hb yc3; replace bk := bk.keep hb; replace hB := bstep hB (Nat.le_refl _) hb; clear hb) | (go_at_call 27; (with_reducible refine (hWy.out _).mono ?_); rintro e w7 ⟨rfl, hb⟩; replace c1 := kcell hb c1; replace c3 := kcell hb c3; replace xc0 := kcell hb xc0; replace xc1 := kcell hb xc1; replace xc2 := kcell hb xc2; replace xc3 := kcell hb xc3; replace yc0 := kcell hb yc0; replace yc1 := kcell hb yc1; replace yc2 := kcell hb yc2; replace yc3 := kcell hb yc3; replace bk := bk.keep hb; replace hB := bstep hB (Nat.le_refl _) hb; clear hb) | (go_at_call 28; (with_reducible refine (hPl.out _).mono ?_); rintro e w8 ⟨rfl, hb⟩; replace c1 := kcell hb c1; replace c3 := kcell hb c3; replace xc0 := kcell hb xc0; replace xc1 := kcell hb xc1; replace xc2 := kcell hb xc2; replace xc3 := kcell hb xc3; replace yc0 := kcell hb yc0; replace yc1 := kcell hb yc1; replace yc2 := kcell hb yc2; replace yc3 := kcell hb yc3; replace bk := bk.keep hb; replace hB := bstep hB (Nat.le_refl _) hb; clear hb) | (go_at_call 27; (with_reducible refine (hWz.out _).mono ?_); rintro e w9 ⟨rfl, hb⟩; replace c1 := kcell hb c1; replace c3 := kcell hb c3; replace xc0 := kcell hb xc0; replace xc1 := kcell hb xc1; replace xc2 := kcell hb xc2; replace xc3 := kcell hb xc3; replace yc0 := kcell hb yc0; replace yc1 := kcell hb yc1; replace yc2 := kcell hb yc2; replace yc3 := kcell hb yc3; replace bk := bk.keep hb; replace hB := bstep hB (Nat.le_refl _) hb; clear hb))
        (have aft_c1 := Aft.cell c1; have aft_c3 := Aft.cell c3; refine wp_region_aft (by kernel_rfl) (by kernel_rfl) ?_; (repeat (go_big_quiet_step ((first | (go_at_call 17; with_reducible exact aft_call (hT3.out _)) | (go_at_call 27; with_reducible exact aft_call (hWv.out _)))))); refine wpQuiet_nil ?_; clear aft_c1 aft_c3; intro w10 hw2_; have hb := Aft.below hw2_; clear hw2_)
        (replace bk := bk.keep hb; replace hB := bstep hB (Nat.le_refl _) hb; clear hb; have d0 := bk.cell 0 _ rfl; have d1 := bk.cell 1 _ rfl; have f0 := bk.frozen 0; have f1 := bk.frozen 1)
        go_wp2
        exact bodyPost_ret (v := .tuple #[.agg #[.int .u64 0, .int .u64 0], .int .i64 24]) (by simp [results, Try.results9, go_sem, d0, d1]) rfl ⟨by rw [HA.out]; rfl, (hB.setCell (by simp; omega) _).setCell (by simp; omega) _⟩
end Go.Proofs.Ytojglionlcjkjaa
