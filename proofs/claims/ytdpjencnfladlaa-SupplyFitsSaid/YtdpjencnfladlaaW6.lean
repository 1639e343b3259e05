/- Walks: the document's Fits; the statement SupplyFits. -/
import Derived.Test.YtdpjencnfladlaaW5
import Derived.Test.YtdpjencnfladlaaSoft4
namespace Go.Proofs.Ytdpjencnfladlaa
open Go.RowKit

theorem sum_at {l : List Rs} {n d k : Nat} (hk : k < l.length) : Rat.sumR n d ((l.map shR).drop k) =
    if (Rat.addR n d (shR l[k]).num (shR l[k]).den).err = 0 then Rat.sumR (Rat.addR n d (shR l[k]).num (shR l[k]).den).num (Rat.addR n d (shR l[k]).num (shR l[k]).den).den ((l.map shR).drop (k + 1)) else ⟨0, 0, (Rat.addR n d (shR l[k]).num (shR l[k]).den).err⟩ := by
  have := Rat.sumR_at (n := n) (d := d) (l := l.map shR) (k := k) (by simpa using hk)
  rw [this]
  simp only [List.getElem_map]

set_option maxRecDepth 100000 in
set_option maxHeartbeats 4000000 in
theorem rfits_any (A : Option Addr) (l : List Rs) (c : Nat) (w : World) (hs : Sl eS 2 w A l) (h1 : l.length ≤ 20) :
    Calls Try.prog 21 #[.slice A l.length c] w fun e w' => e = .returned (.bool (fitsB l)) ∧ Below w.heap.size w w' := by
  go_enter Try.func21, Try.ntmps21
  go_wp2
  have bs : Blk (w.alloc (Obj.cells #[.int .u64 0, .int .u64 1] 41)) w.heap.size 41 #[.int .u64 (0 : Nat), .int .u64 (1 : Nat)] := Blk.new _ _ _
  have hB := below1 w (Obj.cells #[.int .u64 0, .int .u64 1] 41)
  generalize w.alloc (Obj.cells #[.int .u64 0, .int .u64 1] 41) = W0 at *
  go_loopw [4] (fun i wr => ∃ k : Nat, k ≤ l.length ∧ i = .int .i64 k ∧ Hid ((l.take k).all okR = true) ∧ Blk wr w.heap.size 41 #[.int .u64 (0 : Nat), .int .u64 (1 : Nat)] ∧ Below w.heap.size w wr) (fun i _ => l.length - (intOf i).toNat)
  case atStart => exact ⟨0, Nat.zero_le _, rfl, rfl, bs, hB⟩
  case round =>
    clear bs hB
    obtain ⟨k, hk, rfl, HA, bs, hB⟩ := hrel
    by_cases hlt : k < l.length
    · obtain ⟨b, off, rfl, c0, c1⟩ := (hs.keep hB).rs_at hlt
      have HT := Lib.hid (all_take hlt HA.out)
      have HF := Lib.hid (all_bad hlt)
      have hRi := Lib.hid (fun W => refRight_any l[k].b l[k].p W)
      have k0 : (0 : Int) ≤ (k : Int) := by omega
      have k1 : (k : Int) < (l.length : Int) := by omega
      cases hr : okR l[k]
      · have HN := Lib.hid (fits_no (HF.out hr))
        have hr2 : resB l[k].b l[k].p = false := hr
        rw [hr2] at hRi
        clear hr2
        generalize l[k] = r at *
        go_wp2_with (go_at_call 13; (with_reducible refine (hRi.out _).mono ?_); rintro e w5 ⟨rfl, hb⟩; replace hB := bstep hB (Nat.le_refl _) hb; clear hb)
        go_ret
        exact ⟨ret_bool HN.out.symm, hB⟩
      · have hr2 : resB l[k].b l[k].p = true := hr
        rw [hr2] at hRi
        have HT2 := Lib.hid (HT.out hr)
        clear hr2 hr HT HF
        generalize l[k] = r at *
        go_wp2_with (go_at_call 13; (with_reducible refine (hRi.out _).mono ?_); rintro e w5 ⟨rfl, hb⟩; replace bs := bs.keep hb; replace hB := bstep hB (Nat.le_refl _) hb; clear hb)
        go_roundw
        case rel => exact ⟨k + 1, by omega, by go_num, HT2.out, bs, hB⟩
        case measure => simp [intOf]; omega
    · obtain rfl : k = l.length := by omega
      rw [List.take_length] at HA
      go_wp2
      go_loopw [5] (fun i wi => ∃ (k n d : Nat), k ≤ l.length ∧ i = .int .i64 k ∧ n < 18446744073709551616 ∧ d < 18446744073709551616 ∧ Hid (sumS l = Rat.sumR n d ((l.map shR).drop k)) ∧ Blk wi w.heap.size 41 #[.int .u64 n, .int .u64 d] ∧ Below w.heap.size w wi) (fun i _ => l.length - (intOf i).toNat)
      case atStart => exact ⟨0, 0, 1, Nat.zero_le _, rfl, by omega, by omega, rfl, bs, hB⟩
      case round =>
        clear bs hB
        obtain ⟨k, n, d, hk, rfl, hn, hd, HS, bs, hB⟩ := hrel
        by_cases hlt : k < l.length
        · have hok := List.all_eq_true.1 HA.out l[k] (List.getElem_mem hlt)
          have hp := okR_t hok
          obtain ⟨q1, q2⟩ := shR_lt hok
          obtain ⟨b, off, rfl, c0, c1⟩ := (hs.keep hB).rs_at hlt
          have HT := Lib.hid (sum_at (n := n) (d := d) hlt)
          have hMk : Hid (∀ W, Calls Try.prog 18 #[.int .u64 (l[k].b.toNat : Int), .int .u64 (l[k].p.toNat : Int)] W fun e w' => e = .returned (.agg #[.int .u64 ((shR l[k]).num : Int), .int .u64 ((shR l[k]).den : Int)]) ∧ Below W.heap.size W w') := fun W => Rat.refMake_any l[k].b.toNat l[k].p.toNat W (by omega) (by omega) (by omega)
          have hA := Lib.hid (fun W => Rat.refAdd_any n d (shR l[k]).num (shR l[k]).den W hn hd q1 q2)
          simp only [Rat.r3V] at hA
          obtain ⟨t1, t2⟩ := Rat.addR_lt n d (shR l[k]).num (shR l[k]).den
          have HE := Lib.hid (fits_err (l := l))
          generalize Rat.addR n d (shR l[k]).num (shR l[k]).den = t at *
          obtain ⟨tn, td, te⟩ := t
          simp only at HT hA t1 t2
          generalize (shR l[k]).num = qn at *
          generalize (shR l[k]).den = qd at *
          obtain ⟨B, hBn⟩ : ∃ B : Nat, l[k].b = B := ⟨l[k].b.toNat, by omega⟩
          obtain ⟨P, hPn⟩ : ∃ P : Nat, l[k].p = P := ⟨l[k].p.toNat, by omega⟩
          rw [hBn] at c0 hp hMk
          rw [hPn] at c1 hp hMk
          simp only [Int.toNat_natCast] at hMk
          clear hBn hPn hok
          have e1 := u_conv B (by omega)
          have e2 := u_conv P (by omega)
          have s0 := bs.cell 0 (.int .u64 n) rfl
          have s1 := bs.cell 1 (.int .u64 d) rfl
          have k0 : (0 : Int) ≤ (k : Int) := by omega
          have k1 : (k : Int) < (l.length : Int) := by omega
          clear hp
          go_wp2_with fail
          have aft_c0 := Aft.cell c0
          have aft_c1 := Aft.cell c1
          have aft_s0 := Aft.cell s0
          have aft_s1 := Aft.cell s1
          refine wp_region_soft [6] (fun _ => ⟨41, fun g => .pointer (some ⟨g, 0, none⟩), #[.int .u64 0, .int .u64 0], #[.int .u64 tn, .int .u64 td]⟩) 53 (by kernel_rfl) (by kernel_rfl) (by rfl) ?_
          repeat (first | (refine sh_q (by rfl) (by rfl) (by rfl) (fun K hK => ?_); go_big_quiet_op; refine hK _ ?_; clear hK K) | (refine sh_skip (by rfl) (by rfl) ?_; (try simp only [Act.put, List.setIfInBounds_toArray, List.set_cons_zero, List.set_cons_succ])) | (refine sh_call (by rfl) (by rfl) (by rfl) (fun K hK => ?_); go_simp; (try simp only [CUp, true_and]); first | (apply Exists.intro; refine ⟨fun n => ?_, hK _ ?_⟩; (with_reducible exact hMk.out _); clear hK K; (try simp only [Act.put, List.setIfInBounds_toArray, List.set_cons_zero, List.set_cons_succ])) | (apply Exists.intro; refine ⟨fun n => ?_, hK _ ?_⟩; (with_reducible exact hA.out _); clear hK K; (try simp only [Act.put, List.setIfInBounds_toArray, List.set_cons_zero, List.set_cons_succ])) | (apply Exists.intro; refine ⟨fun n => rfl, hK _ ?_⟩; clear hK K; (try simp only [Act.put, List.setIfInBounds_toArray, List.set_cons_zero, List.set_cons_succ]))) | (refine sh_m 6 (by rfl) (fun n => by go_simp) ?_; (try simp only [Act.put, List.setIfInBounds_toArray, List.set_cons_zero, List.set_cons_succ])) | (refine sh_s 6 (by rfl) (fun g w hb => ⟨((w.setCell ⟨g, 0, none⟩ (.int .u64 tn)).setCell ⟨g, 1, none⟩ (.int .u64 td)), by (have b0 := hb.cell 0 (.int .u64 0) rfl; have f0 := hb.frozen 0; have b1 := hb.cell 1 (.int .u64 0) rfl; have f1 := hb.frozen 1; go_simp), by (have hb2 := ((hb.set_ 0 (.int .u64 tn)).set_ 1 (.int .u64 td)); simpa using hb2), only_set (only_set (only_refl w g) 0 (.int .u64 tn)) 1 (.int .u64 td)⟩) ?_; (try simp only [Act.put, List.setIfInBounds_toArray, List.set_cons_zero, List.set_cons_succ])))
          refine sh_end ?_
          intro γ w5 hb hmem hinj
          have hm6 := hmem 6 (by simp)
          clear hmem hinj aft_c0 aft_c1 aft_s0 aft_s1
          simp only [putM, Act.put, List.setIfInBounds_toArray, List.set_cons_zero, List.set_cons_succ]
          generalize γ 6 = g6 at *
          clear γ
          replace bs := bs.keep hb
          replace hB := bstep hB (Nat.le_refl _) hb
          obtain ⟨hg6, b6⟩ := hm6
          have x0 := b6.cell 0 (.int .u64 tn) rfl
          have x1 := b6.cell 1 (.int .u64 td) rfl
          clear hb c0 c1 s0 s1 e1 e2
          have f0 := bs.frozen 0
          have f1 := bs.frozen 1
          have s0 := bs.cell 0 (.int .u64 n) rfl
          have s1 := bs.cell 1 (.int .u64 d) rfl
          by_cases he : te = 0
          · subst he
            have HS2 : Hid (sumS l = Rat.sumR tn td ((l.map shR).drop (k + 1))) := by unfold Hid; rw [HS.out, HT.out, if_pos rfl]
            go_wp2_with fail
            go_roundw
            case rel =>
              refine ⟨k + 1, tn, td, by omega, by go_num, t1, t2, HS2.out, ?_, (hB.setCell (by simp) _).setCell (by simp) _⟩
              have := (bs.set_ 0 (.int .u64 tn)).set_ 1 (.int .u64 td)
              simpa only [List.setIfInBounds_toArray, List.set_cons_zero, List.set_cons_succ] using this
            case measure => simp [intOf]; omega
          · have HS2 : Hid (sumS l = ⟨0, 0, te⟩) := by unfold Hid; rw [HS.out, HT.out, if_neg he]
            have HN := Lib.hid (HE.out (by rw [HS2.out]; exact he))
            have he1 : ((te : Int) != 0) = true := by simp; omega
            go_wp2_with fail
            go_ret
            exact ⟨ret_bool HN.out.symm, hB⟩
        · obtain rfl : k = l.length := by omega
          have HS2 : Hid (sumS l = ⟨n, d, 0⟩) := by unfold Hid; rw [HS.out, List.drop_of_length_le (by simp), Rat.sumR]
          have HY : Hid (decide ((n : Int) ≤ (d : Int)) = fitsB l) := by
            unfold Hid
            rw [fits_yes HA.out (by rw [HS2.out]), HS2.out, Bool.eq_iff_iff]
            simp
          have s0 := bs.cell 0 (.int .u64 n) rfl
          have s1 := bs.cell 1 (.int .u64 d) rfl
          go_wp2
          go_ret
          refine ⟨ret_bool ?_, hB⟩
          rw [← HY.out, Bool.eq_iff_iff]
          simp

theorem info_s : (Try.prog.info? 25).map (fun i => (i.zero, i.size, i.bytes)) = some (some (.agg #[.int .i64 0, .int .i64 0]), 2, 16) := by kernel_rfl
theorem elS : Elem Try.prog 44 25 2 16 := elem_mk Try.underlying44 info_s rfl (by omega)

set_option maxHeartbeats 1000000 in
theorem fits_many (A : Option Addr) (n c : Nat) (w : World) (h : 20 < n) (hl : n ≤ 9223372036854775807) :
    Calls Try.prog 7 #[.slice A n c] w fun e w' => e = .returned (.bool true) ∧ Below w.heap.size w w' := by
  go_enter Try.func7, Try.ntmps7
  go_wp2_with (go_at_call 11; refine (awake_any _).mono ?_; rintro e w2 ⟨rfl, hb⟩)
  go_ret
  exact ⟨rfl, hb⟩

set_option maxRecDepth 100000 in
set_option maxHeartbeats 4000000 in
theorem fits_few (A : Option Addr) (l : List Rs) (c : Nat) (w : World) (hs : Sl eS 2 w A l) (h1 : l.length ≤ 20) :
    Calls Try.prog 7 #[.slice A l.length c] w fun e w' => e = .returned (.bool true) ∧ Below w.heap.size w w' := by
  go_enter Try.func7, Try.ntmps7
  go_wp2
  go_loopw [3, 4] (fun v i wr => ∃ (k : Nat) (O : Option Addr) (q : Nat), k ≤ l.length ∧ i = .int .i64 k ∧ v = .slice O k q ∧ Own eS 2 wr w.heap.size 25 O q (l.take k) ∧ Below w.heap.size w wr) (fun _ i _ => l.length - (intOf i).toNat)
  case atStart => exact ⟨0, none, 0, Nat.zero_le _, rfl, rfl, Own.nil _ _ _, Below.refl _ _⟩
  case round =>
    obtain ⟨k, O, q, hk, rfl, rfl, own, hB⟩ := hrel
    by_cases hlt : k < l.length
    · obtain ⟨b, off, rfl, c0, c1⟩ := (hs.keep hB).rs_at hlt
      have HR : Hid ((l.take k).length = k) := by simp [Hid]; omega
      have HS := Lib.hid (List.take_succ_eq_append_getElem hlt)
      have hBs := hB.size
      have k0 : (0 : Int) ≤ (k : Int) := by omega
      have k1 : (k : Int) < (l.length : Int) := by omega
      generalize l[k] = f at *
      go_wp2_with (first | (go_at_call 8; (with_reducible refine (to_any _ _ _).mono ?_); rintro e w5 ⟨rfl, hb⟩; replace own := own.keep hb; replace hB := bstep hB (Nat.le_refl _) hb; clear hb; replace hBs := hB.size) | (at_builtin; refine wpList_append_sl _ rfl _ _ rfl elS eS_ok (own.alloc _) (n := k) HR.out rfl (m := 1) rfl (ys := [f]) rfl (Sl.new eS_ok w5 _ _ rfl _) (by simp only [maxLen]; omega) (by omega) (by simp; omega) _ rfl (k + 1) rfl ?_; intro A1 e1 w1 own1 hg1 at1))
      go_roundw
      case rel => exact ⟨k + 1, A1, e1, by omega, by go_num, rfl, by rw [HS.out]; exact own1, (hB.alloc hB.size _).grown hg1 (by simp; omega) (fun q hq => (own.lt q hq).1)⟩
      case measure => simp [intOf]; omega
    · obtain rfl : k = l.length := by omega
      rw [List.take_length] at own
      have hxs := own.sl eS_ok
      have hF := Lib.hid (fun W h => sfits_any O l q W h h1)
      have hG := Lib.hid (fun W h => rfits_any A l c W h h1)
      generalize fitsB l = fb at *
      have hfb : (fb == fb) = true := by simp
      go_wp2_with (first | (go_at_call 20; (with_reducible refine (hF.out _ hxs).mono ?_); rintro e w5 ⟨rfl, hb⟩; replace hB := bstep hB (Nat.le_refl _) hb; clear hb) | (go_at_call 21; (with_reducible refine (hG.out _ (hs.keep hB)).mono ?_); rintro e w6 ⟨rfl, hb⟩; replace hB := bstep hB (Nat.le_refl _) hb; clear hb) | (go_at_call 11; refine (awake_any _).mono ?_; rintro e w7 ⟨rfl, hb⟩; replace hB := bstep hB (Nat.le_refl _) hb; clear hb))
      go_ret
      exact ⟨rfl, hB⟩
end Go.Proofs.Ytdpjencnfladlaa
