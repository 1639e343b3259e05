/- Walk: the document's jobs of a round. -/
import Derived.Test.YtkhbnklaglnfdaaW8
import Derived.Test.YtkhbnklaglnfdaaEW4
import Derived.Test.YtkhbnklaglnfdaaLast
namespace Go.Proofs.Ytkhbnklaglnfdaa
open Go.RowKit Go.Lib

theorem eJ_ok : EncOk Edf.eJ 3 := ⟨Edf.eJ_len, fun x u hu => by simp [Edf.eJ] at hu; rcases hu with rfl | rfl | rfl <;> rfl⟩
theorem elJ : Elem Try.prog 45 50 3 24 := elem_mk Try.underlying45 (z := .agg #[.int .i64 0, .int .i64 0, .int .i64 0]) (by kernel_rfl) rfl (by omega)
def OneJ (y : Edf.Job) (v : Value) (w : World) : Prop := ∃ G, v = .slice (some ⟨G, 0, none⟩) 1 1 ∧ Sl Edf.eJ 3 w (some ⟨G, 0, none⟩) [y]
theorem OneJ.keep {y : Edf.Job} {v : Value} {w w' : World} (h : OneJ y v w) (hz : Keeps w w') : OneJ y v w' := by obtain ⟨G, h1, h2⟩ := h; exact ⟨G, h1, h2.keep hz⟩
theorem job_next (l : List Tk) (k q : Nat) : (List.range (q + 1)).map (jobM l k) = (List.range q).map (jobM l k) ++ [jobM l k q] := by rw [List.range_succ, List.map_append]; rfl
theorem who_next (k q : Nat) : List.replicate (q + 1) (k : Int) = List.replicate q (k : Int) ++ [(k : Int)] := List.replicate_succ'
theorem apart_l {A B A' : Option Addr} {H : Nat} (h : ∀ q, blk A = some q → blk B ≠ some q) (hA : blk A' = blk A ∨ blk A' = some H) (hB : ∀ q, blk B = some q → q < H) : ∀ q, blk A' = some q → blk B ≠ some q := fun q hq e => by
  rcases hA with h1 | h1
  · exact h q (h1 ▸ hq) e
  · rw [h1] at hq
    injection hq with hq
    have := hB q e
    omega
theorem apart_r {A B B' : Option Addr} {H : Nat} (h : ∀ q, blk A = some q → blk B ≠ some q) (hB : blk B' = blk B ∨ blk B' = some H) (hA : ∀ q, blk A = some q → q < H) : ∀ q, blk A = some q → blk B' ≠ some q := fun q hq e => by
  rcases hB with h1 | h1
  · exact h q hq (h1 ▸ e)
  · rw [h1] at e
    injection e with e
    have := hA q hq
    omega
theorem apart_ne {A B : Option Addr} (h : ∀ q, blk A = some q → blk B ≠ some q) : blk B = none ∨ blk B ≠ blk A := by
  cases hb : blk B with
  | none => exact .inl rfl
  | some q => right; intro e; exact h q e.symm hb
theorem apart_ne' {A B : Option Addr} (h : ∀ q, blk A = some q → blk B ≠ some q) : blk A = none ∨ blk A ≠ blk B := by
  cases hb : blk A with
  | none => exact .inl rfl
  | some q => right; intro e; exact h q hb e.symm

set_option maxRecDepth 100000 in
set_option maxHeartbeats 8000000 in
theorem jobs_any (A : Option Addr) (l : List Tk) (c : Nat) (n : Nat) (w : World) (hs : Sl eT 3 w A l) (h : allT l = true) (R : Rnd l n) (hn5 : n ≤ 500) :
    Calls Try.prog 21 #[.slice A l.length c, .int .i64 n] w fun e w' => ∃ (O O2 : Option Addr) (d d2 : Nat), e = .returned (.tuple #[.slice O (offM l n l.length) d, .slice O2 (offM l n l.length) d2]) ∧ Own Edf.eJ 3 w' w.heap.size 50 O d (jobsM l n l.length) ∧ Own eI 1 w' w.heap.size 3 O2 d2 (whoM l n l.length) ∧ (∀ q, blk O = some q → blk O2 ≠ some q) ∧ Below w.heap.size w w' := by
  have hs8 := allT_len h
  have H := Lib.hid (And.intro h R)
  clear h R
  go_enter Try.func21, Try.ntmps21
  go_wp2_with fail
  go_loopw [6, 7, 8] (fun v6 v7 v8 wr => ∃ (k a : Nat) (O O2 : Option Addr) (d d2 : Nat), v8 = .int .i64 k ∧ v6 = .slice O a d ∧ v7 = .slice O2 a d2 ∧ k ≤ l.length ∧ a ≤ k * 500 ∧ Hid (offM l n k = a) ∧ Own Edf.eJ 3 wr w.heap.size 50 O d (jobsM l n k) ∧ Own eI 1 wr w.heap.size 3 O2 d2 (whoM l n k) ∧ Hid (∀ q, blk O = some q → blk O2 ≠ some q) ∧ Below w.heap.size w wr) (fun _ _ v8 _ => l.length - (intOf v8).toNat)
  case atStart => exact ⟨0, 0, none, none, 0, 0, rfl, rfl, rfl, Nat.zero_le _, Nat.le_refl _, rfl, Own.nil _ _ _, Own.nil _ _ _, (fun q h => by simp [blk] at h), Below.refl _ _⟩
  case round =>
    obtain ⟨k, a, O, O2, d, d2, rfl, rfl, rfl, hk, ha, HO, hO, hO2, hap, hB⟩ := hrel
    by_cases hlt : k < l.length
    · have hr := allT_at H.out.1 hlt
      have hper := per_eq H.out.2.rt hlt
      have htk : tk l k = l[k] := getD_tk hlt
      have hdv := H.out.2.dv k hlt
      have k0 : (0 : Int) ≤ (k : Int) := by omega
      have k1 : (k : Int) < (l.length : Int) := by omega
      have HA := Lib.hid (show (jobsM l n k).length = a ∧ (whoM l n k).length = a by rw [jobs_len, who_len]; exact ⟨HO.out, HO.out⟩)
      have HJ : Hid (offM l n (k + 1) = a + n / pN l k ∧ jobsM l n (k + 1) = jobsM l n k ++ (List.range (n / pN l k)).map (jobM l k) ∧ whoM l n (k + 1) = whoM l n k ++ List.replicate (n / pN l k) (k : Int)) := ⟨by rw [← HO.out]; rfl, rfl, rfl⟩
      have HJM : Hid (∀ q, jobM l k q = ⟨((q * pN l k : Nat) : Int), ((q * pN l k : Nat) : Int) + l[k].dead, l[k].cost⟩) := fun q => by unfold jobM; rw [htk]
      rw [htk] at hper
      obtain ⟨p, hp⟩ : ∃ p, p = pN l k := ⟨_, rfl⟩
      rw [← hp] at hper hdv HJ HJM
      have hp1 : 1 ≤ p := by omega
      have hqn : n / p ≤ 500 := Nat.le_trans (Nat.div_le_self _ _) hn5
      have HD := Lib.hid hdv
      have HOK := Lib.hid (And.intro hO (And.intro hO2 hB))
      clear hp hdv hO hO2 hB HO htk
      go_wp2_with fail
      go_loopw [6, 7, 9] (fun v6 v7 v9 ws => ∃ (q x : Nat) (O O2 : Option Addr) (d d2 : Nat), v9 = .int .i64 x ∧ v6 = .slice O (a + q) d ∧ v7 = .slice O2 (a + q) d2 ∧ q ≤ n / p ∧ Hid (x = q * p) ∧ x ≤ 500 ∧ Own Edf.eJ 3 ws w.heap.size 50 O d (jobsM l n k ++ (List.range q).map (jobM l k)) ∧ Own eI 1 ws w.heap.size 3 O2 d2 (whoM l n k ++ List.replicate q (k : Int)) ∧ Hid (∀ q, blk O = some q → blk O2 ≠ some q) ∧ Below w.heap.size w ws) (fun _ _ v9 _ => n - (intOf v9).toNat)
      case atStart => exact ⟨0, 0, O, O2, d, d2, rfl, rfl, rfl, Nat.zero_le _, by unfold Hid; rw [Nat.zero_mul], Nat.zero_le _, by simpa using HOK.out.1, by simpa using HOK.out.2.1, hap, HOK.out.2.2⟩
      case round =>
        clear HOK hap
        obtain ⟨q, x, O, O2, d, d2, rfl, rfl, rfl, hq, HX, hx, hO, hO2, hap, hB⟩ := hrel
        obtain ⟨b, off, rfl, c0, c1, c2⟩ := (hs.keep hB).tk_at hlt
        by_cases hxn : x < n
        · have hql : q < n / p := by
            have h1 := Nat.div_add_mod n p
            rw [HD.out, Nat.mul_comm] at h1
            have h2 := HX.out
            exact Nat.lt_of_mul_lt_mul_right (a := p) (by omega)
          obtain ⟨E, hE⟩ : ∃ E, E = (q + 1) * p := ⟨_, rfl⟩
          have hEx : E = x + p := by rw [hE, Nat.add_mul, HX.out]; omega
          have hE5 : E ≤ 500 := by
            have h1 := Nat.mul_le_mul_right p hql
            have h2 := Nat.div_mul_le_self n p
            have h3 : E ≤ n / p * p := by rw [hE]; exact h1
            omega
          have HE := Lib.hid hE
          have hxe : (x : Int) + (p : Int) = (E : Int) := by omega
          have hjm := HJM.out q
          rw [← HX.out] at hjm
          have HN := Lib.hid (And.intro (job_next l k q) (who_next k q))
          rw [hjm] at HN
          have HLn := Lib.hid (show (jobsM l n k ++ (List.range q).map (jobM l k)).length = a + q ∧ (whoM l n k ++ List.replicate q (k : Int)).length = a + q by simp [HA.out.1, HA.out.2])
          have HCe : Hid (∀ W, Sl eT 3 W (some ⟨b, off, none⟩) l → W.cell? ⟨b, off + k * 3 + 1, none⟩ = some (.int .i64 l[k].period)) := fun W hW => by
            obtain ⟨b', off', hA', _, c1, _⟩ := hW.tk_at hlt
            injection hA' with hA'
            injection hA' with e1 e2
            subst e1 e2
            exact c1
          generalize l[k] = t at *
          obtain ⟨C, P, D⟩ := t
          simp only at hr hper c0 c1 c2 HN HCe
          subst hper
          have hxD : IntKind.i64.wrap ((x : Int) + D) = (x : Int) + D := IntWalk.i64_in _ (by omega)
          obtain ⟨y, hy⟩ : ∃ y : Edf.Job, y = ⟨(x : Int), (x : Int) + D, C⟩ := ⟨_, rfl⟩
          rw [← hy] at HN
          have HY : Hid (∀ (W : World) t, Sl Edf.eJ 3 (W.alloc (.cells #[.int .i64 (x : Int), .int .i64 ((x : Int) + D), .int .i64 C] t)) (some ⟨W.heap.size, 0, none⟩) [y]) := fun W t => Sl.new eJ_ok W y _ (by rw [hy]; rfl) t
          clear hE hEx hy hjm
          go_upto_region 9 with (fail)
          have aft_c0 := cw_cell c0
          have aft_c2 := cw_cell c2
          refine wp_region_grand_last (Keeps _) (fun _ => Keeps) [41] (fun _ v w => OneJ y v w) [16] [[16, 15, 14, 8, 7], [16, 15, 14, 13]] 49 (keeps_drew _) (fun _ _ _ h hz => keeps_trans h hz) (fun _ d hd _ v w w' _ h hz => h.keep hz) (by kernel_rfl) (by kernel_rfl) (by kernel_rfl) (by rfl) ?_
          intro l_ o_ hl_ ho_
          simp only [List.dropLast] at hl_
          simp only [List.getLast?_cons_cons, List.getLast?_singleton, Option.some.injEq] at ho_
          subst hl_ ho_
          repeat (first | (refine gr_row (by rfl) ?_; (try simp only [Act.put, List.setIfInBounds_toArray, List.set_cons_zero, List.set_cons_succ])) | (refine gr_free (by rfl) (by rfl) (by rfl) (by rfl) (by rfl) (fun K hK => ?_); go_big_quiet_op; refine hK _ ?_; clear hK K) | (refine gr_q (by rfl) (by rfl) (by rfl) (by rfl) (by rfl) (by rfl) (fun K hK => ?_); go_big_quiet_op; refine hK _ ?_; clear hK K) | (refine gr_no (by rfl) (by rfl) (by rfl) ?_; (try simp only [Act.put, List.setIfInBounds_toArray, List.set_cons_zero, List.set_cons_succ])) | (refine gr_call (by rfl) (by rfl) (by rfl) (by rfl) (by rfl) (fun K hK => ?_); go_simp; (try simp only [RUp, true_and]); first | (apply Exists.intro; refine ⟨fun n => rfl, hK _ ?_⟩; clear hK K; (try simp only [Act.put, List.setIfInBounds_toArray, List.set_cons_zero, List.set_cons_succ]))) | (refine gr_n 41 [] (by rfl) (by rfl) (by rfl) (by rfl) (fun γ w hC hT => ?_) ?_; (simp only [putG]; go_simp; exact gup_v (below1 w _) ⟨_, rfl, HY.out w _⟩); (try simp only [Act.put, List.setIfInBounds_toArray, List.set_cons_zero, List.set_cons_succ])))
          refine gr_end ?_
          intro γ w5 hb5 hT
          clear aft_c0 aft_c2
          simp only [putG, Act.put, List.setIfInBounds_toArray, List.set_cons_zero, List.set_cons_succ]
          simp only [List.filterMap_cons, List.filterMap_nil, List.getElem?_cons_succ, List.getElem?_cons_zero]
          obtain ⟨G2, g41, sl1⟩ := hT 41 (by simp)
          rw [g41]
          have hO5 := hO.keep hb5
          have hO25 := hO2.keep hb5
          have hB5 := bstep hB (Nat.le_refl _) hb5
          clear g41 hT HY hO hO2
          refine wpList_append_sl w5 rfl (.tmp 26) (.tmp 41) rfl elJ eJ_ok (base := w.heap.size) hO5 (n := a + q) HLn.out.1 rfl (m := 1) rfl (ys := [y]) rfl sl1 (by simp only [maxLen]; omega) (by omega) (Below.size hB5) _ rfl (a + q + 1) rfl ?_
          intro A3 e3 w6 own3 hg6 at6
          refine only_end ?_
          refine then_assign (.tmp 42) rfl (.slice A3 (a + q + 1) e3) rfl ?_
          simp only [Act.put, List.setIfInBounds_toArray, List.set_cons_zero, List.set_cons_succ]
          have hO26 := hO25.kept hg6 (apart_ne hap.out)
          have hB6 := bgrow hB5 hg6 (fun q hq => (hO5.lt q hq).1)
          have hap6 := apart_l hap.out at6 (fun q hq => (hO25.lt q hq).2)
          have HW := Lib.hid (And.intro own3 (And.intro hO26 (And.intro hap6 hB6)))
          have hbs := hB6.size
          clear own3 hO26 hap6 hB6 hO5 hO25 hB5 hB hap hg6 at6 sl1 hb5 c0 c1 c2
          go_wp2_with (at_builtin; refine wpList_append_sl _ rfl (.tmp 43) (.tmp 45) rfl elI eI_ok (HW.out.2.1.alloc _) (n := a + q) HLn.out.2 rfl (m := 1) rfl (ys := [(k : Int)]) rfl (Sl.new eI_ok w6 (k : Int) _ rfl _) (by simp only [maxLen]; omega) (by omega) (by simp; omega) _ rfl (a + q + 1) rfl ?_; intro A5 c5 w8 own8 hg8 at8; (have hB8 : Below w.heap.size w w8 := bgrow (HW.out.2.2.2.alloc hbs _) hg8 (fun q hq => (HW.out.2.1.lt q hq).1)); (have c1 := HCe.out w8 (hs.keep hB8)); (have H8 := Lib.hid (And.intro ((HW.out.1.alloc _).kept hg8 (apart_ne' HW.out.2.2.1)) (And.intro own8 (And.intro (apart_r HW.out.2.2.1 at8 (fun q hq => by have := (HW.out.1.lt q hq).2; simp; omega)) hB8)))); clear own8 hg8 at8 hB8)
          go_roundw
          case rel => exact ⟨q + 1, E, A3, A5, e3, c5, by go_num, rfl, rfl, by omega, HE, hE5, by rw [HN.out.1, ← List.append_assoc]; exact H8.out.1, by rw [HN.out.2, ← List.append_assoc]; exact H8.out.2.1, H8.out.2.2.1, H8.out.2.2.2⟩
          case measure => simp [intOf]; omega
        · have hqe : q = n / p := by
            have h1 := Nat.div_add_mod n p
            rw [HD.out, Nat.mul_comm] at h1
            have h2 := HX.out
            rcases Nat.lt_or_ge q (n / p) with h3 | h3
            · have := Nat.mul_le_mul_right p (show q + 1 ≤ n / p from h3)
              rw [Nat.add_mul] at this
              omega
            · omega
          have hxi : ¬ (x : Int) < (n : Int) := by omega
          have HF := Lib.hid (And.intro hO (And.intro hO2 (And.intro hap hB)))
          have ha2 : a + q ≤ (k + 1) * 500 := by omega
          have HJ2 : Hid (offM l n (k + 1) = a + q ∧ jobsM l n (k + 1) = jobsM l n k ++ (List.range q).map (jobM l k) ∧ whoM l n (k + 1) = whoM l n k ++ List.replicate q (k : Int)) := by rw [hqe]; exact HJ
          clear hO hO2 hap hB c0 c1 c2 hxn hqe HJ
          go_wp2_with fail
          go_roundw
          case rel => exact ⟨k + 1, a + q, O, O2, d, d2, by go_num, rfl, rfl, by omega, ha2, HJ2.out.1, by rw [HJ2.out.2.1]; exact HF.out.1, by rw [HJ2.out.2.2]; exact HF.out.2.1, HF.out.2.2.1, HF.out.2.2.2⟩
          case measure => simp [intOf]; omega
    · obtain rfl : k = l.length := by omega
      have hki : ¬ (l.length : Int) < (l.length : Int) := by omega
      have HF := Lib.hid (And.intro hO (And.intro hO2 (And.intro hap hB)))
      clear hO hO2 hap hB hlt
      go_wp2_with fail
      go_ret2
      exact ⟨O, O2, d, d2, by rw [HO.out]; rfl, HF.out.1, HF.out.2.1, HF.out.2.2.1.out, HF.out.2.2.2⟩
end Go.Proofs.Ytkhbnklaglnfdaa
