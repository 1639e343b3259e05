/- Walks over package heap: swap, up, down. -/
import Derived.Test.YtlkgmedenbfhkaaW1
import Derived.Test.YtlkgmedenbfhkaaChain2
namespace Go.Proofs.Ytlkgmedenbfhkaa
open Go.RowKit Go.Lib

/-- a method that hands back nothing, and leaves another list -/
def RetV (F : Nat → Prop) (g : Nat) (hd tn : Int) (Q : List En → Prop) (w : World) (e : Ending) (w' : World) : Prop := e = .returned (.tuple #[]) ∧ (∃ E', Hp F w' g E' hd tn ∧ Q E') ∧ Kp F w w'
theorem two_put {F : Nat → Prop} {w : World} {g q c mb : Nat} {E : List En} {hd tn : Int} (h : Hq F w g (some ⟨q, 0, none⟩) c mb E hd tn) {i j : Nat} (hi : i < E.length) (hj : j < E.length) :
    Hq F ((w.setCells q (i * 4) (eN (atE E j))).setCells q (j * 4) (eN (atE E i))) g (some ⟨q, 0, none⟩) c mb (swapE E i j) hd tn ∧ Kp F w ((w.setCells q (i * 4) (eN (atE E j))).setCells q (j * 4) (eN (atE E i))) := by
  have h1 := own_put eN_len (by omega) h.own hi (atE E j)
  have h2 := own_put eN_len (by omega) h1.1 (i := j) (by rw [List.length_set]; exact hj) (atE E i)
  have hg := only_trans h1.2 h2.2
  exact h.turn (E' := swapE E i j) h2.1 (swapE_len E i j) hg
theorem eN_size (x : En) : (Try.prog.info? 43).map (·.size) = some (eN x).toArray.size := by
  have h : (Try.prog.info? 43).map (·.size) = some 4 := by kernel_rfl
  exact h
theorem eN_one (x : En) : (eN x).toArray.all (·.oneCell') = true := all_oneCell_toArray (eN_ok.one x)
set_option maxRecDepth 100000 in
set_option maxHeartbeats 4000000 in
theorem swap_any (F : Nat → Prop) (g : Nat) (E : List En) (hd tn : Int) (i j : Nat) (w : World) (h : Hp F w g E hd tn) (hi : i < E.length) (hj : j < E.length) (hij : i ≠ j) : Calls Try.prog 18 #[.pointer (some ⟨g, 0, none⟩), .int .i64 i, .int .i64 j] w (RetV F g hd tn (fun E' => E' = swapE E i j) w) := by
  obtain ⟨A, c, mb, h⟩ := h
  obtain ⟨q, rfl, hqg, hqm⟩ := h.at_ hi
  have hcap := h.own.cap
  have c1 := h.c1
  obtain ⟨a0, a1, a2, a3⟩ := h.en hi
  obtain ⟨b0, b1, b2, b3⟩ := h.en hj
  have HTW := Lib.hid (fun n => two_put (h.drewN n) hi hj)
  have HT1 : Hid (∀ n, (w.drewN n).there q (i * 4) 4) := fun n => own_there (h.drewN n).own (by omega)
  have HT2 : Hid (∀ n, ((w.drewN n).setCells q (i * 4) (eN (atE E j))).there q (j * 4) 4) := fun n => World.there_setCells (own_there (h.drewN n).own (by omega)) _ _ _
  have i0 : (0 : Int) ≤ (i : Int) := by omega
  have j0 : (0 : Int) ≤ (j : Int) := by omega
  have i1 : (i : Int) < (E.length : Int) := by omega
  have j1 : (j : Int) < (E.length : Int) := by omega
  have HLE := Lib.hid (swapE_len E i j)
  have HI : Hid (i < (swapE E i j).length ∧ j < (swapE E i j).length) := by unfold Hid; rw [swapE_len]; exact ⟨hi, hj⟩
  have hB0 : Kp F w w := Kp.refl F w
  clear h
  go_enter Try.func18, Try.ntmps18
  go_wp2_with fail
  refine wp_region_chain [25, 27] 58 (by kernel_rfl) (by kernel_rfl) (by rfl) ?_
  repeat (first | (refine ch_row (by rfl) ?_; (try simp only [Act.put, List.setIfInBounds_toArray, List.set_cons_zero, List.set_cons_succ])) | (refine ch_free (by rfl) (by rfl) (by rfl) (fun K hK => ?_); go_big_quiet_op; refine hK _ ?_; clear hK K) | (refine ch_read (by rfl) (by rfl) (by rfl) (fun K hK => ?_); go_big_quiet_op; refine hK _ ?_; clear hK K) | (refine ch_no (by rfl) (by rfl) ?_; (try simp only [Act.put, List.setIfInBounds_toArray, List.set_cons_zero, List.set_cons_succ])))
  refine ch_end ?_
  intro nd
  simp only [List.filterMap_cons, List.filterMap_nil, List.getElem?_cons_succ, List.getElem?_cons_zero]
  refine wpList_store_mid rfl 43 _ _ rfl q (i * 4) (eN (atE E j)).toArray rfl rfl (HT1.out nd) (eN_size _) (eN_one _) ?_
  refine wpList_store_mid rfl 43 _ _ rfl q (j * 4) (eN (atE E i)).toArray rfl rfl (HT2.out nd) (eN_size _) (eN_one _) ?_
  refine only_end ?_
  simp only [Act.put]
  refine at_world (F := Exit.then _ _ _ _) (fun W => Hq F W g (some ⟨q, 0, none⟩) c mb (swapE E i j) hd tn ∧ Kp F w W) ⟨(HTW.out nd).1, (hB0.drewN nd).trans (HTW.out nd).2⟩ ?_
  rintro w2 ⟨hq2, hB2⟩
  clear c1 a0 a1 a2 a3 b0 b1 b2 b3 HT1 HT2 HTW
  have c1 := hq2.c1
  have c2 := hq2.c2
  have a1 := (hq2.en HI.out.1).2.2.1
  have HQ2 := Lib.hid hq2
  clear hq2
  rw [HLE.out] at c1
  generalize (atE (swapE E i j) i).handle = ha at *
  go_wp2_with fail
  refine wp_region_chain [13] 58 (by kernel_rfl) (by kernel_rfl) (by rfl) ?_
  repeat (first | (refine ch_row (by rfl) ?_; (try simp only [Act.put, List.setIfInBounds_toArray, List.set_cons_zero, List.set_cons_succ])) | (refine ch_free (by rfl) (by rfl) (by rfl) (fun K hK => ?_); go_big_quiet_op; refine hK _ ?_; clear hK K) | (refine ch_read (by rfl) (by rfl) (by rfl) (fun K hK => ?_); go_big_quiet_op; refine hK _ ?_; clear hK K) | (refine ch_no (by rfl) (by rfl) ?_; (try simp only [Act.put, List.setIfInBounds_toArray, List.set_cons_zero, List.set_cons_succ])))
  refine ch_end ?_
  intro nd
  simp only [List.filterMap_cons, List.filterMap_nil, List.getElem?_cons_succ, List.getElem?_cons_zero]
  refine wpList_store_mapI _ rfl _ _ _ 34 3 3 rfl Try.underlying34 Try.underlying3 mb ha rfl rfl (HQ2.out.drewN nd).mp ?_
  intro w3 hm3 hg3
  refine only_end ?_
  simp only [Act.put]
  obtain ⟨hq3, hB3⟩ := (HQ2.out.drewN nd).mapped hm3 hg3
  replace hB3 := (hB2.drewN nd).trans hB3
  clear c1 c2 a1 hm3 hg3 HQ2 hB2
  have c1 := hq3.c1
  have c2 := hq3.c2
  have a1 := (hq3.en HI.out.2).2.2.1
  have HQ3 := Lib.hid hq3
  clear hq3
  rw [HLE.out] at c1
  generalize (atE (swapE E i j) j).handle = ha at *
  go_wp2_with fail
  refine wp_region_chain [13] 58 (by kernel_rfl) (by kernel_rfl) (by rfl) ?_
  repeat (first | (refine ch_row (by rfl) ?_; (try simp only [Act.put, List.setIfInBounds_toArray, List.set_cons_zero, List.set_cons_succ])) | (refine ch_free (by rfl) (by rfl) (by rfl) (fun K hK => ?_); go_big_quiet_op; refine hK _ ?_; clear hK K) | (refine ch_read (by rfl) (by rfl) (by rfl) (fun K hK => ?_); go_big_quiet_op; refine hK _ ?_; clear hK K) | (refine ch_no (by rfl) (by rfl) ?_; (try simp only [Act.put, List.setIfInBounds_toArray, List.set_cons_zero, List.set_cons_succ])))
  refine ch_end ?_
  intro nd
  simp only [List.filterMap_cons, List.filterMap_nil, List.getElem?_cons_succ, List.getElem?_cons_zero]
  refine wpList_store_mapI _ rfl _ _ _ 34 3 3 rfl Try.underlying34 Try.underlying3 mb ha rfl rfl (HQ3.out.drewN nd).mp ?_
  intro w4 hm4 hg4
  refine only_end ?_
  simp only [Act.put]
  obtain ⟨hq4, hB4⟩ := (HQ3.out.drewN nd).mapped hm4 hg4
  replace hB4 := (hB3.drewN nd).trans hB4
  go_wp2_with fail
  go_end0
  exact ⟨rfl, ⟨_, ⟨_, _, _, hq4⟩, rfl⟩, hB4⟩
end Go.Proofs.Ytlkgmedenbfhkaa
