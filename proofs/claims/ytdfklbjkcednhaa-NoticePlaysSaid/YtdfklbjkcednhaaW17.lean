/- Walks: the document's Given. -/
import Derived.Test.YtdfklbjkcednhaaW16
namespace Go.Proofs.Ytdfklbjkcednhaa
open Go.RowKit Go.Lib

theorem gup_append_fresh {P : Program} {α : Type} {enc : α → List Value} {sz base : Nat} {e t : TypeId} {bytes : Nat} {o : Oper} {a : Act} {U : Value → World → Prop} (w : World) (s x : Operand) (ho : o.op = .call { callee := .builtin .append, args := #[s, x], argTypes := #[t, t] })
    (hE : Elem P t e sz bytes) (hc : EncOk enc sz) {G : Nat} (hown : Own enc sz w base e (some ⟨G, 0, none⟩) 0 []) (hs : a.eval s = .slice (some ⟨G, 0, none⟩) 0 0) {B : Option Addr} {m d : Nat} {ys : List α} (hx : a.eval x = .slice B m d) (hm : ys.length = m) (hsl : Sl enc sz w B ys)
    (h63 : m ≤ maxLen) (hbytes : m * bytes ≤ 140737488355328) (hbase : base ≤ w.heap.size)
    (h : ∀ A' c' w', Own enc sz w' base e A' c' ys → U (.slice A' m c') w') : GUp P Keeps U w ((execOp (a.eval) o).run P w) := by
  obtain ⟨A', c', w', hr, h2, h3⟩ := run_append_fresh (P := P) (ty := o.type) w hE hc hown hm (d := d) hsl h63 hbytes hbase
  unfold execOp
  simp only [ho, resolve, invoke, builtin, Sem.run_bind, Sem.run_pure, Result.andThen_ok, List.map_toArray, List.map_cons, List.map_nil, hs, hx]
  rw [hr]
  exact gup_v h3 (h A' c' w' h2)
/-- what the slots of a region hold: an empty row; a row anew -/
def EmptyS (wb : World) (v : Value) (w : World) : Prop := ∃ G, v = .slice (some ⟨G, 0, none⟩) 0 0 ∧ wb.heap.size ≤ G ∧ Own eNt 3 w wb.heap.size 64 (some ⟨G, 0, none⟩) 0 []
def AnewS (wb : World) (m : Nat) (l : List Nt) (v : Value) (w : World) : Prop := ∃ A c, v = .slice A m c ∧ Own eNt 3 w wb.heap.size 64 A c l
def GivS (wb : World) (m : Nat) (l : List Nt) (d : Nat) (v : Value) (w : World) : Prop := if d = 16 then EmptyS wb v w else AnewS wb m l v w
theorem giv16 {wb : World} {m : Nat} {l : List Nt} {v : Value} {w : World} : GivS wb m l 16 v w ↔ EmptyS wb v w := by simp [GivS]
theorem giv21 {wb : World} {m : Nat} {l : List Nt} {v : Value} {w : World} : GivS wb m l 21 v w ↔ AnewS wb m l v w := by simp [GivS]
theorem EmptyS.keep {wb : World} {v : Value} {w w' : World} (h : EmptyS wb v w) (hz : Keeps w w') : EmptyS wb v w' := by obtain ⟨G, h1, h2, h3⟩ := h; exact ⟨G, h1, h2, h3.keep hz⟩
theorem AnewS.keep {wb : World} {m : Nat} {l : List Nt} {v : Value} {w w' : World} (h : AnewS wb m l v w) (hz : Keeps w w') : AnewS wb m l v w' := by obtain ⟨A, c, h1, h2⟩ := h; exact ⟨A, c, h1, h2.keep hz⟩
theorem GivS.keep {wb : World} {m : Nat} {l : List Nt} {d : Nat} {v : Value} {w w' : World} (h : GivS wb m l d v w) (hz : Keeps w w') : GivS wb m l d v w' := by
  unfold GivS at *
  by_cases h1 : d = 16
  · simp only [h1, if_true] at h ⊢; exact EmptyS.keep h hz
  · simp only [h1, if_false] at h ⊢; exact AnewS.keep h hz

set_option maxRecDepth 100000 in
set_option maxHeartbeats 8000000 in
theorem rgiven_no (x : Rd) (env frm : Int) (w : World) (h : RdOk w x) (hl : x.rL.length ≤ 500) (hf : fiN x.rL env frm = none) :
    Calls Try.prog 9 #[.agg (eRd x).toArray, .int .i64 env, .int .i64 frm] w fun e w' => e = .returned (.tuple #[.agg (eRd x).toArray, .bool false]) ∧ Below w.heap.size w w' := by
  obtain ⟨b0, b1, hB⟩ := rd_boxes x w h _ rfl
  have hP := rat_any x env frm _ (h.keep hB) (by omega)
  rw [show plcN x.rL env frm = -1 by unfold plcN; rw [hf]] at hP
  have hz := zero_rd
  have hlen := eRd_len h
  have hone := eRd_one x
  clear h hl hf
  generalize eRd x = M at *
  have HP := Lib.hid hP
  have HX := Lib.hid (And.intro b0 (And.intro b1 (And.intro (rd_info M hlen) (And.intro (show zeroRd.size = M.length by rw [hlen]; rfl) hone))))
  have HB := Lib.hid hB
  clear b0 b1 hB hlen hone hP
  go_enter Try.func9, Try.ntmps9
  go_wp2_with (refine wpList_load_mid rfl 47 _ rfl w.heap.size 0 rfl M _ HX.out.1.range Try.underlying47 rfl HX.out.2.2.1 ?_)
  with_reducible refine HP.out.mono ?_
  rintro e w2 ⟨rfl, hb⟩
  have HX2 := Lib.hid (And.intro (HX.out.1.keep hb) (And.intro (HX.out.2.1.keep hb) HX.out.2.2))
  have HF := Lib.hid (And.intro (HX2.out.2.1.fill M (by rw [HX.out.2.2.2.1])) (below_only (bstep HB.out (Nat.le_refl _) hb) (grown_setCells (w.heap.size + 1) M 0 _ _ (only_refl _ _)) (by omega)))
  clear hb HP HB
  go_wp2_with (first | (refine wpList_load_mid rfl 47 _ rfl w.heap.size 0 rfl M _ HX2.out.1.range Try.underlying47 rfl HX.out.2.2.1 ?_) | (refine wpList_store_mid rfl 47 _ _ rfl (w.heap.size + 1) 0 M.toArray rfl rfl (HX2.out.2.1.there (by simp [HX.out.2.2.2.1])) (by simpa using HX.out.2.2.1) (all_oneCell_toArray HX.out.2.2.2.2) ?_))
  exact bodyPost_ret (results_cell_tmp rfl _ _ (w.heap.size + 1) M _ rfl HF.out.1.range Try.underlying47 rfl HX.out.2.2.1) rfl ⟨rfl, HF.out.2⟩

theorem Sl.empty_at {α : Type} {enc : α → List Value} {sz : Nat} {w : World} {A : Option Addr} : Sl enc sz w A [] := fun h => absurd h (by simp)
theorem Sl.tail {w : World} {q i k : Nat} {L : List Nt} (h : Sl eNt 3 w (some ⟨q, 0, none⟩) L) (hn : i + 1 + k = L.length) : Sl eNt 3 w (some ⟨q, (i + 1) * 3, none⟩) (L.drop (i + 1)) := by
  by_cases hk : k = 0
  · rw [List.drop_of_length_le (by omega)]; exact Sl.empty_at
  · have := h.drop (k := i + 1) (by omega)
    simpa using this

set_option maxRecDepth 100000 in
set_option maxHeartbeats 8000000 in
theorem rgiven_ok (x : Rd) (env frm : Int) (i : Nat) (w : World) (h : RdOk w x) (hl : x.rL.length ≤ 500) (hf : fiN x.rL env frm = some i) :
    Calls Try.prog 9 #[.agg (eRd x).toArray, .int .i64 env, .int .i64 frm] w fun e w' => ∃ (A' : Option Addr) (c' : Nat), e = .returned (.tuple #[.agg (eRd ⟨A', x.rL.eraseIdx i, c', x.rT⟩).toArray, .bool true]) ∧ RdOk w' ⟨A', x.rL.eraseIdx i, c', x.rT⟩ ∧ Below w.heap.size w w' := by
  obtain ⟨b0, b1, hB⟩ := rd_boxes x w h _ rfl
  have hP := rat_any x env frm _ (h.keep hB) (by omega)
  rw [show plcN x.rL env frm = i by unfold plcN; rw [hf]] at hP
  have hi : i < x.rL.length := (List.findIdx?_eq_some_iff_getElem.1 hf).1
  obtain ⟨k, hk⟩ : ∃ k, i + 1 + k = x.rL.length := ⟨x.rL.length - (i + 1), by omega⟩
  have hE : x.rL.eraseIdx i = x.rL.take i ++ x.rL.drop (i + 1) := List.eraseIdx_eq_take_drop_succ ..
  rw [hE]
  obtain ⟨q, hq⟩ : ∃ q, x.rA = some ⟨q, 0, none⟩ := by
    rcases h.shape with ⟨h1, _⟩ | h1
    · exfalso
      obtain ⟨b, off, h2, _⟩ := h.sl (by omega)
      rw [h1] at h2
      cases h2
    · exact h1
  have hz := zero_rd
  have hlen := eRd_len h
  have hone := eRd_one x
  have HR := Lib.hid h
  have hn5 : i + 1 + k ≤ 500 := by omega
  have hkc : i + 1 + k ≤ x.rC := by have := h.cap; omega
  have HT := Lib.hid (show (x.rL.take i).length = i by rw [List.length_take]; omega)
  have HD := Lib.hid (show (x.rL.drop (i + 1)).length = k by rw [List.length_drop]; omega)
  have HK := Lib.hid hk
  obtain ⟨M, hM⟩ : ∃ M, M = eRd x := ⟨_, rfl⟩
  rw [← hM] at b0 b1 hB hP hlen hone ⊢
  have hsA := h.sl
  rw [hq] at hsA
  obtain ⟨c, hc⟩ : ∃ c, c = x.rC := ⟨_, rfl⟩
  rw [← hc] at hkc
  have h0 : M[0]? = some (.slice (some ⟨q, 0, none⟩) (i + 1 + k) c) := by rw [hM, eRd_0, hq, hk, hc]
  have HM := Lib.hid (And.intro hM h0)
  have HP := Lib.hid hP
  have HX := Lib.hid (And.intro b0 (And.intro b1 (And.intro (rd_info M hlen) (And.intro (show zeroRd.size = M.length by rw [hlen]; rfl) hone))))
  have HB := Lib.hid hB
  have HA := Lib.hid hsA
  clear b0 b1 hB hlen hone hP h hl hM h0 hf hi hk hE hsA hc hq
  have hi0 : (0 : Int) ≤ (i : Int) := by omega
  have hi1 : (0 : Int) ≤ (i : Int) + 1 := by omega
  have hi2 : (i : Int) ≤ (c : Int) := by omega
  have hi3 : (i : Int) + 1 ≤ (i : Int) + 1 + (k : Int) := by omega
  have hi4 : (i : Int) + 1 + (k : Int) ≤ (c : Int) := by omega
  have hic : i ≤ c := by omega
  have hic1 : i + 1 ≤ i + 1 + k := by omega
  by_cases hce : c = i + 1
  · obtain rfl : k = 0 := by omega
    subst hce
    replace hi3 : (i : Int) + 1 ≤ (i : Int) + 1 := by omega
    replace hi4 : (i : Int) ≤ (i : Int) + 1 := by omega
    clear hkc hic1
    go_enter Try.func9, Try.ntmps9
    go_wp2_with (refine wpList_load_mid rfl 47 _ rfl w.heap.size 0 rfl M _ HX.out.1.range Try.underlying47 rfl HX.out.2.2.1 ?_)
    with_reducible refine HP.out.mono ?_
    rintro e w2 ⟨rfl, hb⟩
    have b2 := HX.out.1.keep hb
    have c0 := b2.cell 0 (.slice (some ⟨q, 0, none⟩) (i + 1) (i + 1)) (by rw [List.getElem?_toArray]; exact HM.out.2)
    have z2 : w.heap.size + 1 < w2.heap.size := (HX.out.2.1.keep hb).lt
    have hB2 := bstep HB.out (Nat.le_refl _) hb
    have hs2 := HA.out.keep hB2
    have h1 := hs2.take i
    have HX2 := Lib.hid (And.intro b2 (And.intro (HX.out.2.1.keep hb) (And.intro hB2 hs2)))
    have HS16 : Hid (∀ W : World, Below w2.heap.size w2 W → EmptyS w2 (.slice (some ⟨W.heap.size, 0, none⟩) 0 0) (W.alloc (.cells #[] 64))) := fun W h => ⟨_, rfl, h.size, Own.empty W _ h.size⟩
    clear hb HP HB b2 hs2 hB2 HA
    go_upto_region 4 with (fail)
    have aft_c0 := cw_cell c0
    refine wp_region_grand (Keeps _) (fun _ => Keeps) [16, 21] (GivS w2 i (x.rL.take i)) [11, 13] [[11, 5, 0], [11, 5, 4, 2], [11, 10, 7]] 30 (keeps_drew _) (fun _ _ _ h hz => keeps_trans h hz) (fun _ d hd _ v w w' _ h hz => h.keep hz) (by kernel_rfl) (by kernel_rfl) (by rfl) ?_
    repeat (first | (refine gr_row (by rfl) ?_; (try simp only [Act.put, List.setIfInBounds_toArray, List.set_cons_zero, List.set_cons_succ])) | (refine gr_free (by rfl) (by rfl) (by rfl) (by rfl) (by rfl) (fun K hK => ?_); go_big_quiet_op; refine hK _ ?_; clear hK K) | (refine gr_q (by rfl) (by rfl) (by rfl) (by rfl) (by rfl) (by rfl) (fun K hK => ?_); go_big_quiet_op; refine hK _ ?_; clear hK K) | (refine gr_no (by rfl) (by rfl) (by rfl) ?_; (try simp only [Act.put, List.setIfInBounds_toArray, List.set_cons_zero, List.set_cons_succ])) | (refine gr_call (by rfl) (by rfl) (by rfl) (by rfl) (by rfl) (fun K hK => ?_); go_simp; (try simp only [RUp, true_and]); first | (apply Exists.intro; refine ⟨fun n => rfl, hK _ ?_⟩; clear hK K; (try simp only [Act.put, List.setIfInBounds_toArray, List.set_cons_zero, List.set_cons_succ]))) | (refine gr_n 16 [] (by rfl) (by rfl) (by rfl) (by rfl) (fun γ w hC hT => ?_) ?_; (simp only [putG]; go_simp; exact gup_v (below1 w _) (giv16.2 (HS16.out w hC))); (try simp only [Act.put, List.setIfInBounds_toArray, List.set_cons_zero, List.set_cons_succ])) | (refine gr_n 21 [16] (by rfl) (by rfl) (by rfl) (by rfl) (fun γ w hC hT => ?_) ?_; ((obtain ⟨G, hv, hG, hO⟩ := giv16.1 (hT 16 (by simp))); refine gup_append_fresh w (.tmp 16) (.tmp 20) rfl elRN eNt_ok hO (by simp only [putG, Act.put, List.setIfInBounds_toArray, List.set_cons_zero, List.set_cons_succ]; rw [hv]; rfl) (by rfl) (m := i) (ys := x.rL.take i) HT.out (Sl.keep (w := w2) h1 hC) (by simp only [maxLen]; omega) (by omega) (Below.size hC) (fun A1 e1 w1 h => giv21.2 ⟨A1, e1, rfl, h⟩)); (try simp only [Act.put, List.setIfInBounds_toArray, List.set_cons_zero, List.set_cons_succ])))
    refine gr_end ?_
    intro γ w5 hb5 hT
    clear aft_c0
    simp only [putG, Act.put, List.setIfInBounds_toArray, List.set_cons_zero, List.set_cons_succ]
    simp only [List.filterMap_cons, List.filterMap_nil, List.getElem?_cons_succ, List.getElem?_cons_zero]
    obtain ⟨A1, e1, g21, own1⟩ := giv21.1 (hT 21 (by simp))
    rw [g21]
    clear g21 hT HS16 h1 c0
    refine wpList_append_sl w5 rfl (.tmp 21) (.tmp 26) rfl elRN eNt_ok (base := w2.heap.size) (xs := x.rL.take i) own1 (n := i) HT.out rfl (m := 0) (d := 0) (B := some ⟨q, 0, none⟩) (by rfl) (ys := x.rL.drop (i + 1)) HD.out (by rw [List.drop_of_length_le (by have := HK.out; omega)]; exact Sl.empty_at) (by simp only [maxLen]; omega) (by omega) (Below.size hb5) _ rfl (i) rfl ?_
    intro A5 c5 w6 own6 hg6 at6
    have hB6 : Below w2.heap.size w2 w6 := bgrow hb5 hg6 (fun q hq => (own1.lt q hq).1)
    have b6 : Blk w6 w.heap.size 47 (eRd x).toArray := by rw [← HM.out.1]; exact HX2.out.1.keep hB6
    have r6 := HX2.out.2.1.keep hB6
    have HE := rd_end (x' := ⟨A5, x.rL.take i ++ x.rL.drop (i + 1), c5, x.rT⟩) (N := i) HR.out rfl own6 (by simp only [List.length_append, HT.out, HD.out, Nat.add_zero]) (by omega) rfl b6 r6 (bstep HX2.out.2.2.1 (Nat.le_refl _) hB6)
    refine wpList_store_cell w6 rfl 43 _ _ rfl w.heap.size 0 (.slice A5 (i) c5) rfl rfl (by kernel_rfl) rfl (b6.one (by simp [eRd])) ?_
    refine only_end ?_
    simp only [Act.put, List.setIfInBounds_toArray, List.set_cons_zero, List.set_cons_succ]
    obtain ⟨M2, hM2⟩ : ∃ M2, M2 = eRd ⟨A5, x.rL.take i ++ x.rL.drop (i + 1), c5, x.rT⟩ := ⟨_, rfl⟩
    rw [← hM2] at HE
    have HM2 := Lib.hid hM2
    have hl2 : M2.length = 9 := by rw [hM2]; simp [eRd, HR.out.t8]
    have HW := Lib.hid (And.intro (rd_info M2 hl2) (And.intro (show zeroRd.size = M2.length by rw [hl2]; rfl) (And.intro (show ∀ u ∈ M2, u.oneCell' = true by rw [hM2]; exact eRd_one _) HE)))
    clear own1 own6 hg6 at6 hB6 b6 r6 HE hM2 hl2 hb5
    go_wp2_with (first | (refine wpList_load_mid rfl 47 _ rfl w.heap.size 0 rfl M2 _ HW.out.2.2.2.1.range Try.underlying47 rfl HW.out.1 ?_) | (refine wpList_store_mid rfl 47 _ _ rfl (w.heap.size + 1) 0 M2.toArray rfl rfl (HW.out.2.2.2.2.1.there (by simp [HW.out.2.1])) (by simpa using HW.out.1) (all_oneCell_toArray HW.out.2.2.1) ?_))
    exact bodyPost_ret (results_cell_tmp rfl _ _ (w.heap.size + 1) M2 _ rfl HW.out.2.2.2.2.2.1.range Try.underlying47 rfl HW.out.1) rfl ⟨A5, c5, by rw [HM2.out]; rfl, HW.out.2.2.2.2.2.2.1, HW.out.2.2.2.2.2.2.2⟩
  · go_enter Try.func9, Try.ntmps9
    go_wp2_with (refine wpList_load_mid rfl 47 _ rfl w.heap.size 0 rfl M _ HX.out.1.range Try.underlying47 rfl HX.out.2.2.1 ?_)
    with_reducible refine HP.out.mono ?_
    rintro e w2 ⟨rfl, hb⟩
    have b2 := HX.out.1.keep hb
    have c0 := b2.cell 0 (.slice (some ⟨q, 0, none⟩) (i + 1 + k) c) (by rw [List.getElem?_toArray]; exact HM.out.2)
    have z2 : w.heap.size + 1 < w2.heap.size := (HX.out.2.1.keep hb).lt
    have hB2 := bstep HB.out (Nat.le_refl _) hb
    have hs2 := HA.out.keep hB2
    have h1 := hs2.take i
    have HX2 := Lib.hid (And.intro b2 (And.intro (HX.out.2.1.keep hb) (And.intro hB2 hs2)))
    have HS16 : Hid (∀ W : World, Below w2.heap.size w2 W → EmptyS w2 (.slice (some ⟨W.heap.size, 0, none⟩) 0 0) (W.alloc (.cells #[] 64))) := fun W h => ⟨_, rfl, h.size, Own.empty W _ h.size⟩
    clear hb HP HB b2 hs2 hB2 HA
    go_upto_region 4 with (fail)
    have aft_c0 := cw_cell c0
    refine wp_region_grand (Keeps _) (fun _ => Keeps) [16, 21] (GivS w2 i (x.rL.take i)) [11, 13] [[11, 5, 0], [11, 5, 4, 2], [11, 10, 7]] 30 (keeps_drew _) (fun _ _ _ h hz => keeps_trans h hz) (fun _ d hd _ v w w' _ h hz => h.keep hz) (by kernel_rfl) (by kernel_rfl) (by rfl) ?_
    repeat (first | (refine gr_row (by rfl) ?_; (try simp only [Act.put, List.setIfInBounds_toArray, List.set_cons_zero, List.set_cons_succ])) | (refine gr_free (by rfl) (by rfl) (by rfl) (by rfl) (by rfl) (fun K hK => ?_); go_big_quiet_op; refine hK _ ?_; clear hK K) | (refine gr_q (by rfl) (by rfl) (by rfl) (by rfl) (by rfl) (by rfl) (fun K hK => ?_); go_big_quiet_op; refine hK _ ?_; clear hK K) | (refine gr_no (by rfl) (by rfl) (by rfl) ?_; (try simp only [Act.put, List.setIfInBounds_toArray, List.set_cons_zero, List.set_cons_succ])) | (refine gr_call (by rfl) (by rfl) (by rfl) (by rfl) (by rfl) (fun K hK => ?_); go_simp; (try simp only [RUp, true_and]); first | (apply Exists.intro; refine ⟨fun n => rfl, hK _ ?_⟩; clear hK K; (try simp only [Act.put, List.setIfInBounds_toArray, List.set_cons_zero, List.set_cons_succ]))) | (refine gr_n 16 [] (by rfl) (by rfl) (by rfl) (by rfl) (fun γ w hC hT => ?_) ?_; (simp only [putG]; go_simp; exact gup_v (below1 w _) (giv16.2 (HS16.out w hC))); (try simp only [Act.put, List.setIfInBounds_toArray, List.set_cons_zero, List.set_cons_succ])) | (refine gr_n 21 [16] (by rfl) (by rfl) (by rfl) (by rfl) (fun γ w hC hT => ?_) ?_; ((obtain ⟨G, hv, hG, hO⟩ := giv16.1 (hT 16 (by simp))); refine gup_append_fresh w (.tmp 16) (.tmp 20) rfl elRN eNt_ok hO (by simp only [putG, Act.put, List.setIfInBounds_toArray, List.set_cons_zero, List.set_cons_succ]; rw [hv]; rfl) (by rfl) (m := i) (ys := x.rL.take i) HT.out (Sl.keep (w := w2) h1 hC) (by simp only [maxLen]; omega) (by omega) (Below.size hC) (fun A1 e1 w1 h => giv21.2 ⟨A1, e1, rfl, h⟩)); (try simp only [Act.put, List.setIfInBounds_toArray, List.set_cons_zero, List.set_cons_succ])))
    refine gr_end ?_
    intro γ w5 hb5 hT
    clear aft_c0
    simp only [putG, Act.put, List.setIfInBounds_toArray, List.set_cons_zero, List.set_cons_succ]
    simp only [List.filterMap_cons, List.filterMap_nil, List.getElem?_cons_succ, List.getElem?_cons_zero]
    obtain ⟨A1, e1, g21, own1⟩ := giv21.1 (hT 21 (by simp))
    rw [g21]
    clear g21 hT HS16 h1 c0
    refine wpList_append_sl w5 rfl (.tmp 21) (.tmp 26) rfl elRN eNt_ok (base := w2.heap.size) (xs := x.rL.take i) own1 (n := i) HT.out rfl (m := k) (by rfl) (ys := x.rL.drop (i + 1)) HD.out ((HX2.out.2.2.2.tail HK.out).keep hb5) (by simp only [maxLen]; omega) (by omega) (Below.size hb5) _ rfl (i + k) rfl ?_
    intro A5 c5 w6 own6 hg6 at6
    have hB6 : Below w2.heap.size w2 w6 := bgrow hb5 hg6 (fun q hq => (own1.lt q hq).1)
    have b6 : Blk w6 w.heap.size 47 (eRd x).toArray := by rw [← HM.out.1]; exact HX2.out.1.keep hB6
    have r6 := HX2.out.2.1.keep hB6
    have HE := rd_end (x' := ⟨A5, x.rL.take i ++ x.rL.drop (i + 1), c5, x.rT⟩) (N := i + k) HR.out rfl own6 (by simp only [List.length_append, HT.out, HD.out, Nat.add_zero]) (by omega) rfl b6 r6 (bstep HX2.out.2.2.1 (Nat.le_refl _) hB6)
    refine wpList_store_cell w6 rfl 43 _ _ rfl w.heap.size 0 (.slice A5 (i + k) c5) rfl rfl (by kernel_rfl) rfl (b6.one (by simp [eRd])) ?_
    refine only_end ?_
    simp only [Act.put, List.setIfInBounds_toArray, List.set_cons_zero, List.set_cons_succ]
    obtain ⟨M2, hM2⟩ : ∃ M2, M2 = eRd ⟨A5, x.rL.take i ++ x.rL.drop (i + 1), c5, x.rT⟩ := ⟨_, rfl⟩
    rw [← hM2] at HE
    have HM2 := Lib.hid hM2
    have hl2 : M2.length = 9 := by rw [hM2]; simp [eRd, HR.out.t8]
    have HW := Lib.hid (And.intro (rd_info M2 hl2) (And.intro (show zeroRd.size = M2.length by rw [hl2]; rfl) (And.intro (show ∀ u ∈ M2, u.oneCell' = true by rw [hM2]; exact eRd_one _) HE)))
    clear own1 own6 hg6 at6 hB6 b6 r6 HE hM2 hl2 hb5
    go_wp2_with (first | (refine wpList_load_mid rfl 47 _ rfl w.heap.size 0 rfl M2 _ HW.out.2.2.2.1.range Try.underlying47 rfl HW.out.1 ?_) | (refine wpList_store_mid rfl 47 _ _ rfl (w.heap.size + 1) 0 M2.toArray rfl rfl (HW.out.2.2.2.2.1.there (by simp [HW.out.2.1])) (by simpa using HW.out.1) (all_oneCell_toArray HW.out.2.2.1) ?_))
    exact bodyPost_ret (results_cell_tmp rfl _ _ (w.heap.size + 1) M2 _ rfl HW.out.2.2.2.2.2.1.range Try.underlying47 rfl HW.out.1) rfl ⟨A5, c5, by rw [HM2.out]; rfl, HW.out.2.2.2.2.2.2.1, HW.out.2.2.2.2.2.2.2⟩
end Go.Proofs.Ytdfklbjkcednhaa
