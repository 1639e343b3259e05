/- Walk: is a board the document's? -/
import Derived.Test.YtdfklbjkcednhaaX1
namespace Go.Proofs.Ytdfklbjkcednhaa
open Go.RowKit Go.Lib

def ClS (L : List Nt) (n : Nat) (v : Value) (w : World) : Prop := ∃ O d, v = .slice O n d ∧ Sl eNt 3 w O L
theorem ClS.keep {L : List Nt} {n : Nat} {v : Value} {w w' : World} (h : ClS L n v w) (hz : Keeps w w') : ClS L n v w' := by obtain ⟨O, d, h1, h2⟩ := h; exact ⟨O, d, h1, Sl.keep h2 hz⟩

set_option maxRecDepth 100000 in
set_option maxHeartbeats 8000000 in
theorem same_any {g c : Nat} {A : Option Addr} {VS : List Vc} (x : Rd) (w : World) (hd : Bd w g A c x.rL VS) (h : RdOk w x) (hl : x.rL.length ≤ 500) (hT : x.rT.map Td.tV = VS.map cntV) :
    Calls Try.prog 13 #[.pointer (some ⟨g, 0, none⟩), .agg (eRd x).toArray] w fun e w' => e = .returned (.bool true) ∧ Below w.heap.size w w' := by
  have b0 := Blk.new w 47 (eRd x).toArray
  have hB0 := below1 w (Obj.cells (eRd x).toArray 47)
  have hd0 := hd.keep hB0
  have h0 := h.keep hB0
  have h8 := h.t8
  have HTV : Hid (∀ k (hk : k < x.rT.length), cntV (VS.getD k ⟨[], 0⟩) = x.rT[k].tV) := fun k hk => by
    have h9 := hd.v8
    have h1 : (x.rT.map Td.tV)[k]? = (VS.map cntV)[k]? := by rw [hT]
    simp only [List.getElem?_map, List.getElem?_eq_getElem hk, List.getElem?_eq_getElem (show k < VS.length by omega), Option.map_some, Option.some.injEq] at h1
    rw [h1]
    simp [show k < VS.length by omega]
  clear hd h hT
  obtain ⟨n, hn⟩ : ∃ n, n = x.rL.length := ⟨_, rfl⟩
  have HN := Lib.hid hn
  have hn5 : n ≤ 500 := by omega
  have hM0 := eRd_0 x
  have hMe : Hid (∀ e (he : e < x.rT.length), (eRd x)[1 + e]? = some (eTd x.rT[e])) := fun e he => eRd_e he
  rw [← hn] at hM0
  generalize eRd x = M at *
  have HX := Lib.hid (And.intro b0 (And.intro hM0 (And.intro hB0 (And.intro hd0 h0))))
  clear hn hl b0 hM0 hB0 hd0 h0
  go_enter Try.func13, Try.ntmps13
  go_upto_region 1 with (fail)
  generalize w.alloc (Obj.cells M.toArray 47) = w0 at *
  go_wp2_with fail
  go_loopw [5] (fun v5 wr => ∃ k : Nat, v5 = .int .i64 k ∧ k ≤ 8 ∧ Below w0.heap.size w0 wr) (fun v5 _ => 8 - (intOf v5).toNat)
  case atStart => exact ⟨0, rfl, Nat.zero_le _, Below.refl _ _⟩
  case round =>
    obtain ⟨k, rfl, hk, hB⟩ := hrel
    have hbx := HX.out.1.keep hB
    by_cases hlt : k < 8
    · have hkT : k < x.rT.length := by omega
      have c1 := hbx.cell (1 + k) _ (by rw [List.getElem?_toArray]; exact hMe.out k hkT)
      have hTk := taken_any k wr (HX.out.2.2.2.1.keep hB) hlt
      rw [HTV.out k hkT] at hTk
      have hsl := ((HX.out.2.2.2.2.tok _ (List.getElem_mem hkT)).keep hB).sl
      have hln := (HX.out.2.2.2.2.tok _ (List.getElem_mem hkT)).len
      generalize x.rT[k] = tt at *
      obtain ⟨A2, V, c2⟩ := tt
      simp only [eTd] at c1 hsl hTk hln
      obtain ⟨m, hm⟩ : ∃ m, m = V.length := ⟨_, rfl⟩
      rw [← hm] at c1 hln
      have HTk := Lib.hid hTk
      have HM := Lib.hid hm
      have HB := Lib.hid hB
      have k0 : (0 : Int) ≤ (k : Int) := by omega
      have k1 : (k : Int) < 8 := by omega
      clear hTk hm hbx hB
      go_wp2_with fail
      with_reducible refine HTk.out.mono ?_
      rintro e w2 ⟨O, d, rfl, hs, hb⟩
      rw [← HM.out]
      replace c1 := kcell hb c1
      replace hsl := hsl.keep hb
      have HF := Lib.hid (bstep HB.out (Nat.le_refl _) hb)
      clear hb HB HTk
      go_wp2_with fail
      go_loopw [7] (fun v7 ws => ∃ j : Nat, v7 = .int .i64 j ∧ j ≤ m ∧ Below w2.heap.size w2 ws) (fun v7 _ => m - (intOf v7).toNat)
      case atStart => exact ⟨0, rfl, Nat.zero_le _, Below.refl _ _⟩
      case round =>
        obtain ⟨j, rfl, hj, hB⟩ := hrel
        by_cases hlt : j < m
        · have hjV : j < V.length := by have := HM.out; omega
          obtain ⟨p1, o1, rfl, y0⟩ := (hs.keep hB).int_at hjV
          obtain ⟨p2, o2, rfl, z0⟩ := (hsl.keep hB).int_at hjV
          replace c1 := kcell hB c1
          generalize V[j] = v at *
          have j0 : (0 : Int) ≤ (j : Int) := by omega
          have j1 : (j : Int) < (m : Int) := by omega
          go_upto_region 10 with (fail)
          (have aft_y0 := Aft.cell y0; have aft_z0 := Aft.cell z0; have aft_c1 := Aft.cell c1; refine wp_region_aft (by kernel_rfl) (by kernel_rfl) ?_; (repeat (go_big_quiet_step (fail))); refine wpQuiet_nil ?_; clear aft_y0 aft_z0 aft_c1; intro w5 hw2_; have hb5 := Aft.below hw2_; clear hw2_)
          have HG := Lib.hid (bstep hB (Nat.le_refl _) hb5)
          clear y0 z0 c1 hb5 hB
          go_wp2_with fail
          go_roundw
          case rel => exact ⟨j + 1, by go_num, by omega, HG.out⟩
          case measure => simp [intOf]; omega
        · obtain rfl : j = m := by omega
          have j1 : ¬ (j : Int) < (j : Int) := by omega
          have HG := Lib.hid (bstep HF.out (Nat.le_refl _) hB)
          clear hB c1 hs hsl
          go_wp2_with fail
          go_roundw
          case rel => exact ⟨k + 1, by go_num, by omega, HG.out⟩
          case measure => simp [intOf]; omega
    · obtain rfl : k = 8 := by omega
      have c0 := hbx.cell 0 _ (by rw [List.getElem?_toArray]; exact HX.out.2.1)
      have HLs : Hid (∀ W, Keeps wr W → Calls Try.prog 14 #[.pointer (some ⟨g, 0, none⟩)] W fun e w'' => ∃ v, e = .returned v ∧ Keeps W w'' ∧ ClS x.rL n v w'') := fun W hW => (list_any W (HX.out.2.2.2.1.keep (bstep hB (Nat.le_refl _) hW)) (by rw [← HN.out]; omega)).mono fun e w'' ⟨O, d, he, hs, hb⟩ => ⟨_, he, hb, O, d, by rw [HN.out], hs⟩
      have HAr : Hid (∀ W, Keeps wr W → ∀ O d, Sl eNt 3 W O x.rL → Calls Try.prog 11 #[.slice O n d, .slice x.rA n x.rC] W fun e w'' => e = .returned (.bool true) ∧ Keeps W w'') := fun W hW O d hs => are_any O x.rA x.rL n d x.rC W hs (HX.out.2.2.2.2.sl.keep (bstep hB (Nat.le_refl _) hW)) HN.out.symm (by omega)
      have HG := Lib.hid hB
      clear hB hbx hMe HTV
      go_upto_region 12 with (fail)
      have aft_c0 := cw_cell c0
      refine wp_region_grand (Keeps _) (fun _ => Keeps) [42] (fun _ v w => ClS x.rL n v w) [] [] 46 (keeps_drew _) (fun _ _ _ h hz => keeps_trans h hz) (fun _ d hd _ v w w' _ h hz => h.keep hz) (by kernel_rfl) (by kernel_rfl) (by rfl) ?_
      repeat (first | (refine gr_row (by rfl) ?_; (try simp only [Act.put, List.setIfInBounds_toArray, List.set_cons_zero, List.set_cons_succ])) | (refine gr_free (by rfl) (by rfl) (by rfl) (by rfl) (by rfl) (fun K hK => ?_); go_big_quiet_op; refine hK _ ?_; clear hK K) | (refine gr_q (by rfl) (by rfl) (by rfl) (by rfl) (by rfl) (by rfl) (fun K hK => ?_); go_big_quiet_op; refine hK _ ?_; clear hK K) | (refine gr_no (by rfl) (by rfl) (by rfl) ?_; (try simp only [Act.put, List.setIfInBounds_toArray, List.set_cons_zero, List.set_cons_succ])) | (refine gr_call (by rfl) (by rfl) (by rfl) (by rfl) (by rfl) (fun K hK => ?_); go_simp; (try simp only [RUp, true_and]); first | (apply Exists.intro; refine ⟨fun n => rfl, hK _ ?_⟩; clear hK K; (try simp only [Act.put, List.setIfInBounds_toArray, List.set_cons_zero, List.set_cons_succ]))) | (refine gr_n 42 [] (by rfl) (by rfl) (by rfl) (by rfl) (fun γ w hC hT => ?_) ?_; (simp only [putG]; go_simp; exact gup_f (HLs.out w hC)); (try simp only [Act.put, List.setIfInBounds_toArray, List.set_cons_zero, List.set_cons_succ])) | (refine gr_u (.bool true) [42] (by rfl) (by rfl) (by rfl) (by simp) (by rfl) (by rfl) (fun γ w hC hT => ?_) ?_; (obtain ⟨O1, d1, hv, hs⟩ := hT 42 (by simp); simp only [putG, Act.put, List.setIfInBounds_toArray, List.set_cons_zero, List.set_cons_succ, hv]; go_simp; exact gup_f ((HAr.out w hC O1 d1 hs).mono fun e w'' hw => ⟨_, hw.1, hw.2, rfl⟩)); (try simp only [Act.put, List.setIfInBounds_toArray, List.set_cons_zero, List.set_cons_succ])) | (refine gr_uf (.bool true) [42] (by rfl) (by rfl) (by rfl) (by simp) (by rfl) (by rfl) (fun γ w hC hT w2 => ?_) ?_; (obtain ⟨O1, d1, hv, hs⟩ := hT 42 (by simp); simp only [putG, Act.put, List.setIfInBounds_toArray, List.set_cons_zero, List.set_cons_succ, hv]; go_simp; exact gup_f ((HAr.out w hC O1 d1 hs).mono fun e w'' hw => ⟨_, hw.1, hw.2, rfl⟩)); (try simp only [Act.put, List.setIfInBounds_toArray, List.set_cons_zero, List.set_cons_succ])))
      refine gr_end ?_
      intro γ w5 hb5 hT
      clear aft_c0
      simp only [putG, Act.put, List.setIfInBounds_toArray, List.set_cons_zero, List.set_cons_succ]
      refine only_end ?_
      have HF := Lib.hid (bstep HX.out.2.2.1 (Nat.le_refl _) (bstep HG.out (Nat.le_refl _) hb5))
      clear hb5 c0 hT
      go_wp2_with fail
      go_ret
      exact ⟨rfl, HF.out⟩
end Go.Proofs.Ytdfklbjkcednhaa
