/- Walk: the symmetric merge, where one of the stretches has one element. -/
import Derived.Test.YtdfklbjkcednhaaW3
import Derived.Deep.DeepCutAuto
import Derived.Deep.CutBlock
namespace Go.Proofs.Ytdfklbjkcednhaa
open Go.RowKit Go.Lib

def SymR (B q c : Nat) (T : List Nt) (a b : Nat) (w : World) (e : Ending) (w' : World) : Prop := e = .returned (.tuple #[]) ∧ (∃ T', Rw B w' q c T' ∧ Done T T' a b) ∧ Sw q w w'

set_option maxRecDepth 100000 in
set_option maxHeartbeats 4000000 in
theorem sym_one (B q c L a m b : Nat) (T P X Y S : List Nt) (w : World) (h : Rw B w q c T) (hL : Hid (T.length = L)) (hM : Mg T a m b P X Y S) (h0 : m = a + 1) (h1 : m < b) (hb : b ≤ L) (h3 : L ≤ 1000) :
    Calls Try.prog 31 #[.slice (some ⟨q, 0, none⟩) L c, .int .i64 a, .int .i64 m, .int .i64 b, .func (.func 19) #[] #[]] w (SymR B q c T a b w) := by
  have k0 : (m : Int) - (a : Int) = 1 := by omega
  have HM := Lib.hid hM
  have H0 := Lib.hid h0
  have am : a < m := by omega
  clear hM h0
  go_enter Try.func31, Try.ntmps31
  go_wp2_with fail
  go_loopw [10, 11] (fun v10 v11 wr => ∃ i j : Nat, v10 = .int .i64 i ∧ v11 = .int .i64 j ∧ m ≤ i ∧ i ≤ j ∧ j ≤ b ∧ Hid (∀ k, m ≤ k → k < i → (atT T k).nTil < (atT T a).nTil) ∧ Hid (∀ k, j ≤ k → k < b → ¬ (atT T k).nTil < (atT T a).nTil) ∧ Rw B wr q c T ∧ Sw q w wr) (fun v10 v11 _ => (intOf v11).toNat - (intOf v10).toNat)
  case atStart => exact ⟨m, b, rfl, rfl, Nat.le_refl _, by omega, Nat.le_refl _, fun k h1 h2 => by omega, fun k h1 h2 => by omega, h, Sw.refl _⟩
  case round =>
    clear h
    obtain ⟨i, j, rfl, rfl, hi, hij, hj, l1, l2, hW, hS⟩ := hrel
    by_cases hlt : i < j
    · have k1 : (i : Int) < (j : Int) := by omega
      obtain ⟨H, hH⟩ : ∃ H, H = (i + j) / 2 := ⟨_, rfl⟩
      have eH : ((i : Int) + (j : Int)) / 2 = (H : Int) := by omega
      have hH1 : i ≤ H := by omega
      have hH2 : H < j := by omega
      have HH := Lib.hid hH
      clear hH
      have hI : H < T.length := by have := hL.out; omega
      have hJ : a < T.length := by have := hL.out; omega
      have q1 : H < L := by omega
      have q2 : a < L := by omega
      obtain ⟨a0, a1, a2⟩ := rw_at hW hI
      obtain ⟨b0, b1, b2⟩ := rw_at hW hJ
      have hc := Lib.hid (fun W => cmp_any (atT T H).nEnv (atT T H).nFrm (atT T H).nTil (atT T a).nEnv (atT T a).nFrm (atT T a).nTil W)
      obtain ⟨E, hE⟩ : ∃ E, cmpI (atT T H).nTil (atT T a).nTil = E := ⟨_, rfl⟩
      rw [hE] at hc
      have HR := Lib.hid (And.intro hW hS)
      clear hW hS
      by_cases hk : (atT T H).nTil < (atT T a).nTil
      · have hE0 : E < 0 := by rw [← hE, cmpI_neg]; exact hk
        have L1 : Hid (∀ k, m ≤ k → k < H + 1 → (atT T k).nTil < (atT T a).nTil) := by
          have := HH.out; subst this
          exact half_up (HM.out.mono1 (atT T a)) l1.out hi hlt hj hk
        clear hE hk l1
        go_upto_region 5 with (fail)
        (have aft_a0 := Aft.cell a0; have aft_a1 := Aft.cell a1; have aft_a2 := Aft.cell a2; have aft_b0 := Aft.cell b0; have aft_b1 := Aft.cell b1; have aft_b2 := Aft.cell b2; refine wp_region_aft (by kernel_rfl) (by kernel_rfl) ?_; (repeat (go_big_quiet_step ((go_at_call 19; with_reducible exact aft_call (hc.out _))))); refine wpQuiet_nil ?_; clear aft_a0 aft_a1 aft_a2 aft_b0 aft_b1 aft_b2; intro w5 hw2_; have hb5 := Aft.below hw2_; clear hw2_)
        replace hW := HR.out.1.keep hb5
        replace hS := HR.out.2.below hb5
        clear a0 a1 a2 b0 b1 b2 hc hb5 HR
        go_wp2_with fail
        go_roundw
        case rel => exact ⟨H + 1, j, by go_num, rfl, by omega, by omega, hj, L1, l2, hW, hS⟩
        case measure => simp [intOf]; omega
      · have hE0 : ¬ E < 0 := by rw [← hE, cmpI_neg]; exact hk
        have L2 : Hid (∀ k, H ≤ k → k < b → ¬ (atT T k).nTil < (atT T a).nTil) := by
          have := HH.out; subst this
          exact half_down (HM.out.mono1 (atT T a)) hi hlt hk
        clear hE hk l2
        go_upto_region 5 with (fail)
        (have aft_a0 := Aft.cell a0; have aft_a1 := Aft.cell a1; have aft_a2 := Aft.cell a2; have aft_b0 := Aft.cell b0; have aft_b1 := Aft.cell b1; have aft_b2 := Aft.cell b2; refine wp_region_aft (by kernel_rfl) (by kernel_rfl) ?_; (repeat (go_big_quiet_step ((go_at_call 19; with_reducible exact aft_call (hc.out _))))); refine wpQuiet_nil ?_; clear aft_a0 aft_a1 aft_a2 aft_b0 aft_b1 aft_b2; intro w5 hw2_; have hb5 := Aft.below hw2_; clear hw2_)
        replace hW := HR.out.1.keep hb5
        replace hS := HR.out.2.below hb5
        clear a0 a1 a2 b0 b1 b2 hc hb5 HR
        go_wp2_with fail
        go_roundw
        case rel => exact ⟨i, H, rfl, rfl, hi, by omega, by omega, l1, L2, hW, hS⟩
        case measure => simp [intOf]; omega
    · obtain rfl : i = j := by omega
      go_wp2_with fail
      go_loopw [13] (fun v13 ws => ∃ (k : Nat) (T2 : List Nt), v13 = .int .i64 k ∧ k + 1 ≤ i ∧ InsAt a k Y (atT T a) P S T2 ∧ Rw B ws q c T2 ∧ Sw q w ws) (fun v13 _ => i - (intOf v13).toNat)
      case atStart => exact ⟨a, T, rfl, by omega, HM.out.one H0.out, hW, hS⟩
      case round =>
        clear hW hS
        obtain ⟨k, T2, rfl, hki, hA, hW, hS⟩ := hrel
        have hT2 : Hid (T2.length = L) := by
          have h1 := (HM.out.one H0.out).tlen
          have h2 := hA.tlen
          have := hL.out
          unfold Hid
          omega
        by_cases hk : k + 1 < i
        · have k1 : (k : Int) < (i : Int) - 1 := by omega
          have hI : k < T2.length := by have := hT2.out; omega
          have hJ : k + 1 < T2.length := by have := hT2.out; omega
          have q3 : (k : Int) + 1 < (L : Int) := by omega
          have HA := Lib.hid (hA.up (by have := HM.out.yb; have := H0.out; omega))
          clear hA
          have HT1 : Hid (∀ z, (wr.drewN z).there q (k * 3) 3) := fun z => own_there (hW.drewN z) (Nat.lt_of_lt_of_le hI hW.cap)
          have HT2 : Hid (∀ z, ((wr.drewN z).setCells q (k * 3) (eNt (atT T2 (k + 1)))).there q ((k + 1) * 3) 3) := fun z => World.there_setCells (own_there (hW.drewN z) (Nat.lt_of_lt_of_le hJ hW.cap)) _ _ _
          have HSW := Lib.hid (fun z => rw_swp (hW.drewN z) hI hJ)
          obtain ⟨a0, a1, a2⟩ := rw_at hW hI
          obtain ⟨b0, b1, b2⟩ := rw_at hW hJ
          have HS := Lib.hid hS
          clear hW hS
          go_wp2_with fail
          refine wp_region_chain [15, 17] 220 (by kernel_rfl) (by kernel_rfl) (by rfl) ?_
          repeat (first | (refine ch_row (by rfl) ?_; (try simp only [Act.put, List.setIfInBounds_toArray, List.set_cons_zero, List.set_cons_succ])) | (refine ch_free (by rfl) (by rfl) (by rfl) (fun K hK => ?_); go_big_quiet_op; refine hK _ ?_; clear hK K) | (refine ch_read (by rfl) (by rfl) (by rfl) (fun K hK => ?_); go_big_quiet_op; refine hK _ ?_; clear hK K) | (refine ch_no (by rfl) (by rfl) ?_; (try simp only [Act.put, List.setIfInBounds_toArray, List.set_cons_zero, List.set_cons_succ])))
          refine ch_end ?_
          intro nd
          simp only [List.filterMap_cons, List.filterMap_nil, List.getElem?_cons_succ, List.getElem?_cons_zero]
          refine wpList_store_mid rfl 39 _ _ rfl q (k * 3) (eNt (atT T2 (k + 1))).toArray rfl rfl (HT1.out nd) (eNt_size _) (eNt_one _) ?_
          refine wpList_store_mid rfl 39 _ _ rfl q ((k + 1) * 3) (eNt (atT T2 k)).toArray rfl rfl (HT2.out nd) (eNt_size _) (eNt_one _) ?_
          refine only_end ?_
          simp only [Act.put]
          refine at_world (F := Exit.inBlock _ _ _ _) (fun W => Rw B W q c (swp T2 k (k + 1)) ∧ Sw q w W) ⟨(HSW.out nd).1, (HS.out.drewN nd).trans (HSW.out nd).2⟩ ?_
          rintro w6 ⟨hW6, hS6⟩
          clear a0 a1 a2 b0 b1 b2 HT1 HT2 HSW HS
          go_wp2_with fail
          go_roundw
          case rel => exact ⟨k + 1, _, by go_num, by omega, HA.out, hW6, hS6⟩
          case measure => simp [intOf]; omega
        · have k1 : ¬ (k : Int) < (i : Int) - 1 := by omega
          obtain rfl : k = i - 1 := by omega
          have HD := Lib.hid (HM.out.done1 H0.out hi hj l1.out (fun k h1 h2 => by have := l2.out k h1 h2; omega) hA)
          clear hA
          go_wp2_with fail
          go_end0
          exact ⟨rfl, ⟨_, hW, HD.out⟩, hS⟩
end Go.Proofs.Ytdfklbjkcednhaa
