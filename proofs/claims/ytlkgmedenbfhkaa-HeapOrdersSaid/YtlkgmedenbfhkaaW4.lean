/- Walks over package heap: Push. -/
import Derived.Test.YtlkgmedenbfhkaaW3
import Derived.Test.YtlkgmedenbfhkaaGrand2
import Derived.Deep.DeepCutAuto
import Derived.Deep.CutBlock
namespace Go.Proofs.Ytlkgmedenbfhkaa
open Go.RowKit Go.Lib

/-- a new slice of one entry -/
def NewE (e : En) (v : Value) (w : World) : Prop := ∃ G, v = .slice (some ⟨G, 0, none⟩) 1 1 ∧ Sl eN 4 w (some ⟨G, 0, none⟩) [e]
theorem NewE.keep {e : En} {v : Value} {w w' : World} (h : NewE e v w) (hz : Keeps w w') : NewE e v w' := by
  obtain ⟨G, e1, h1⟩ := h
  exact ⟨G, e1, h1.keep hz⟩
theorem newE_mk (e : En) (w : World) : NewE e (.slice (some ⟨w.heap.size, 0, none⟩) 1 1) (w.alloc (.cells #[.int .i64 e.key, .int .i64 e.what, .int .i64 e.handle, .int .i64 e.turn] 43)) :=
  ⟨w.heap.size, rfl, Sl.new eN_ok w e _ rfl _⟩
/-- the numbers of a heap turn -/
theorem Hq.nums {F : Nat → Prop} {w : World} {g : Nat} {A : Option Addr} {c mb : Nat} {E : List En} {hd tn : Int} (h : Hq F w g A c mb E hd tn) (x y : Int) :
    Hq F ((w.setCell ⟨g, 3, none⟩ (.int .i64 x)).setCell ⟨g, 4, none⟩ (.int .i64 y)) g A c mb E x y ∧ Kp F w ((w.setCell ⟨g, 3, none⟩ (.int .i64 x)).setCell ⟨g, 4, none⟩ (.int .i64 y)) := by
  have hg := only_set (only_set (only_refl w g) 3 (.int .i64 x)) 4 (.int .i64 y)
  have hb := (h.blk.set_ 3 (.int .i64 x)).set_ 4 (.int .i64 y)
  exact ⟨⟨hb, h.own.kept hg (.inr h.ng), h.mp.far hg (fun e => h.gm e.symm), h.gm, h.ng, h.nm, fun i hi => ⟨Nat.lt_of_lt_of_le (h.off i hi).1 hg.size, (h.off i hi).2⟩⟩, Kp.grown hg fun i hi => ⟨(h.off i hi).1, fun e => (h.off i hi).2.1 (by injection e)⟩⟩
/-- a row that grew, and the slice's new header -/
theorem Hq.grow {F : Nat → Prop} {w w5 w6 : World} {g : Nat} {A A' : Option Addr} {c c' mb : Nat} {E E' : List En} {hd tn : Int} (h : Hq F w g A c mb E hd tn) (hb : Below w.heap.size w w5) (ho : Own eN 4 w6 0 43 A' c' E') (hg : w5.grownBy w6 (Go.Proofs.Ytlkgmedenbfhkaa.blk A)) (ha : Go.Proofs.Ytlkgmedenbfhkaa.blk A' = Go.Proofs.Ytlkgmedenbfhkaa.blk A ∨ Go.Proofs.Ytlkgmedenbfhkaa.blk A' = some w5.heap.size) :
    Hq F (w6.setCell ⟨g, 1, none⟩ (.slice A' E'.length c')) g A' c' mb E' hd tn ∧ Kp F w (w6.setCell ⟨g, 1, none⟩ (.slice A' E'.length c')) := by
  have hk := h.keep hb
  have hlt := h.blk.lt
  have hml := h.mp.lt
  have hs := hb.size
  have b6 : Blk w6 g 36 #[.bool true, .slice A E.length c, .map (some mb), .int .i64 hd, .int .i64 tn] := hk.blk.grown hg (fun e => hk.ng e.symm)
  have m6 : MapI w6 mb := by
    obtain ⟨es, cl, h1, h2⟩ := hk.mp
    exact ⟨es, cl, (hg.block mb hk.mp.lt (fun e => hk.nm e.symm)).trans h1, h2⟩
  have hng : Go.Proofs.Ytlkgmedenbfhkaa.blk A' ≠ some g := fun e => by
    rcases ha with ha | ha
    · exact h.ng (ha.symm.trans e)
    · rw [ha] at e; injection e with e; omega
  have hnm : Go.Proofs.Ytlkgmedenbfhkaa.blk A' ≠ some mb := fun e => by
    rcases ha with ha | ha
    · exact h.nm (ha.symm.trans e)
    · rw [ha] at e; injection e with e; omega
  have hg2 := only_set (only_refl w6 g) 1 (.slice A' E'.length c')
  have hoff : ∀ i, F i → i < w6.heap.size ∧ i ≠ g ∧ i ≠ mb ∧ Go.Proofs.Ytlkgmedenbfhkaa.blk A' ≠ some i := fun i hi => by
    have := h.off i hi
    have h6 := hg.size
    refine ⟨by omega, this.2.1, this.2.2.1, fun e => ?_⟩
    rcases ha with ha | ha
    · exact this.2.2.2 (ha.symm.trans e)
    · rw [ha] at e; injection e with e; omega
  refine ⟨⟨b6.set_ 1 (.slice A' E'.length c'), ho.kept hg2 (.inr hng), m6.far hg2 (fun e => h.gm e.symm), h.gm, hng, hnm, fun i hi => ⟨Nat.lt_of_lt_of_le (hoff i hi).1 hg2.size, (hoff i hi).2⟩⟩, ?_⟩
  refine (Kp.of_below hb (fun i hi => (h.off i hi).1)).trans ((Kp.grown hg fun i hi => ?_).trans (Kp.grown hg2 fun i hi => ⟨(hoff i hi).1, fun e => (hoff i hi).2.1 (by injection e)⟩))
  exact ⟨by have := (h.off i hi).1; omega, fun e => (h.off i hi).2.2.2 e.symm⟩
def RetP (F : Nat → Prop) (g : Nat) (hd tn : Int) (v : Value) (Q : List En → Prop) (w : World) (e : Ending) (w' : World) : Prop := e = .returned v ∧ (∃ E', Hp F w' g E' hd tn ∧ Q E') ∧ Kp F w w'
set_option maxRecDepth 100000 in
set_option maxHeartbeats 4000000 in
theorem push_any (F : Nat → Prop) (g : Nat) (E : List En) (hd tn k x : Int) (w : World) (h : Hp F w g E hd tn) (hH : HeapB E) (hl : E.length ≤ 500) (hd0 : 0 ≤ hd) (hd1 : hd ≤ 1000) (tn0 : 0 ≤ tn) (tn1 : tn ≤ 1000) :
    Calls Try.prog 6 #[.pointer (some ⟨g, 0, none⟩), .agg #[.int .i64 k, .int .i64 x]] w (RetP F g (hd + 1) (tn + 1) (.int .i64 (hd + 1)) (fun E' => E'.Perm (E ++ [⟨k, x, hd + 1, tn + 1⟩]) ∧ HeapB E') w) := by
  have hbx := h.box (Obj.cells #[.int .i64 k, .int .i64 x] 28)
  have hk0 : Kp F w (w.alloc (Obj.cells #[.int .i64 k, .int .i64 x] 28)) := h.kp (below1 w _)
  obtain ⟨A, c, mb, h⟩ := hbx
  have c0 := h.c0
  have c3 := h.c3
  have c4 := h.c4
  have f3 := h.blk.frozen 3
  have f4 := h.blk.frozen 4
  have HN := Lib.hid (h.nums (hd + 1) (tn + 1))
  have hX := Blk.new w 28 #[.int .i64 k, .int .i64 x]
  have HXF : Hid ((fun i => F i ∨ i = w.heap.size) w.heap.size) := .inr rfl
  have HX := Lib.hid hX
  clear h hX
  go_enter Try.func6, Try.ntmps6
  go_upto_region 5 with (fail)
  refine at_world (F := Code.wp _ _ _ _) (fun W => Hq (fun i => F i ∨ i = w.heap.size) W g A c mb E (hd + 1) (tn + 1) ∧ Kp F w W ∧ Blk W w.heap.size 28 #[.int .i64 k, .int .i64 x]) ⟨HN.out.1, hk0.trans (HN.out.2.mono fun i hi => .inl hi), HN.out.2.blk HX.out HXF.out⟩ ?_
  rintro w2 ⟨hq2, hk2, hx2⟩
  clear c0 c3 c4 f3 f4 HN HX hk0
  generalize w.heap.size = bx at *
  have c1 := hq2.c1
  have c3 := hq2.c3
  have c4 := hq2.c4
  have x0 := hx2.cell 0 (.int .i64 k) rfl
  have x1 := hx2.cell 1 (.int .i64 x) rfl
  have HQ2 := Lib.hid hq2
  clear hq2 hx2
  obtain ⟨e, he⟩ : ∃ e : En, e = ⟨k, x, hd + 1, tn + 1⟩ := ⟨_, rfl⟩
  have HE := Lib.hid he
  obtain ⟨ek, ex, eh, et⟩ : e.key = k ∧ e.what = x ∧ e.handle = hd + 1 ∧ e.turn = tn + 1 := by rw [he]; exact ⟨rfl, rfl, rfl, rfl⟩
  have HEE : Hid (∀ w : World, NewE e (.slice (some ⟨w.heap.size, 0, none⟩) 1 1) (w.alloc (.cells #[.int .i64 k, .int .i64 x, .int .i64 (hd + 1), .int .i64 (tn + 1)] 43))) := fun w => by
    have := newE_mk e w
    rw [ek, ex, eh, et] at this
    exact this
  clear he ek ex eh et
  go_wp2_with fail
  have aft_c1 := cw_cell c1
  have aft_c3 := cw_cell c3
  have aft_c4 := cw_cell c4
  have aft_x0 := cw_cell x0
  have aft_x1 := cw_cell x1
  refine wp_region_grand (Keeps _) (fun _ => Keeps) [49] (fun _ v w => NewE e v w) [16, 19] [[16, 15, 14, 5], [16, 15, 14, 9], [16, 15, 14, 13]] 69 (keeps_drew _) (fun _ _ _ h hz => keeps_trans h hz) (fun _ d hd _ v w w' _ h hz => h.keep hz) (by kernel_rfl) (by kernel_rfl) (by rfl) ?_
  repeat (first | (refine gr_row (by rfl) ?_; (try simp only [Act.put, List.setIfInBounds_toArray, List.set_cons_zero, List.set_cons_succ])) | (refine gr_free (by rfl) (by rfl) (by rfl) (by rfl) (by rfl) (fun K hK => ?_); go_big_quiet_op; refine hK _ ?_; clear hK K) | (refine gr_q (by rfl) (by rfl) (by rfl) (by rfl) (by rfl) (by rfl) (fun K hK => ?_); go_big_quiet_op; refine hK _ ?_; clear hK K) | (refine gr_no (by rfl) (by rfl) (by rfl) ?_; (try simp only [Act.put, List.setIfInBounds_toArray, List.set_cons_zero, List.set_cons_succ])) | (refine gr_call (by rfl) (by rfl) (by rfl) (by rfl) (by rfl) (fun K hK => ?_); go_simp; (try simp only [RUp, true_and]); first | (apply Exists.intro; refine ⟨fun n => rfl, hK _ ?_⟩; clear hK K; (try simp only [Act.put, List.setIfInBounds_toArray, List.set_cons_zero, List.set_cons_succ]))) | (refine gr_n 49 [] (by rfl) (by rfl) (by rfl) (by rfl) (fun γ w hC hT => ?_) ?_; (go_simp; exact gup_v (below1 w _) (HEE.out w)); (try simp only [Act.put, List.setIfInBounds_toArray, List.set_cons_zero, List.set_cons_succ])))
  refine gr_end ?_
  intro γ w5 hb5 hT
  clear aft_c1 aft_c3 aft_c4 aft_x0 aft_x1
  simp only [putG, Act.put, List.setIfInBounds_toArray, List.set_cons_zero, List.set_cons_succ]
  simp only [List.filterMap_cons, List.filterMap_nil, List.getElem?_cons_succ, List.getElem?_cons_zero]
  obtain ⟨G, eG, hG⟩ := hT 49 (by simp)
  rw [eG]
  clear eG hT
  have hk5 := HQ2.out.keep hb5
  refine wpList_append_sl w5 rfl (.tmp 38) (.tmp 49) rfl elN eN_ok (base := 0) (xs := E) hk5.own (n := E.length) rfl rfl (m := 1) rfl (ys := [e]) rfl hG (by simp only [maxLen]; omega) (by omega) (Nat.zero_le _) _ rfl (E.length + 1) rfl ?_
  intro A6 c6 w6 own6 hg6 at6
  refine wpList_store_cell w6 rfl 33 _ _ rfl g 1 (.slice A6 (E.length + 1) c6) rfl rfl (by kernel_rfl) rfl ((hk5.blk.grown hg6 (fun e => hk5.ng e.symm)).one (by simp)) ?_
  refine only_end ?_
  simp only [Act.put, List.setIfInBounds_toArray, List.set_cons_zero, List.set_cons_succ]
  have hq6 := HQ2.out.grow hb5 own6 hg6 at6
  rw [show (E ++ [e]).length = E.length + 1 by simp] at hq6
  refine at_world (F := Exit.then _ _ _ _) (fun W => Hq (fun i => F i ∨ i = bx) W g A6 c6 mb (E ++ [e]) (hd + 1) (tn + 1) ∧ Kp F w W) ⟨hq6.1, hk2.trans (hq6.2.mono fun i hi => .inl hi)⟩ ?_
  clear hq6 own6 hg6 at6 hk5 hb5 hG c1 c3 c4 x0 x1 hk2 HQ2 HEE
  rintro w7 ⟨hq7, hk7⟩
  have c2 := hq7.c2
  have c3 := hq7.c3
  have HQ7 := Lib.hid hq7
  clear hq7
  go_wp2_with fail
  refine wp_region_chain [9] 69 (by kernel_rfl) (by kernel_rfl) (by rfl) ?_
  repeat (first | (refine ch_row (by rfl) ?_; (try simp only [Act.put, List.setIfInBounds_toArray, List.set_cons_zero, List.set_cons_succ])) | (refine ch_free (by rfl) (by rfl) (by rfl) (fun K hK => ?_); go_big_quiet_op; refine hK _ ?_; clear hK K) | (refine ch_read (by rfl) (by rfl) (by rfl) (fun K hK => ?_); go_big_quiet_op; refine hK _ ?_; clear hK K) | (refine ch_no (by rfl) (by rfl) ?_; (try simp only [Act.put, List.setIfInBounds_toArray, List.set_cons_zero, List.set_cons_succ])))
  refine ch_end ?_
  intro nd
  simp only [List.filterMap_cons, List.filterMap_nil, List.getElem?_cons_succ, List.getElem?_cons_zero]
  refine wpList_store_mapI _ rfl _ _ _ 34 3 3 rfl Try.underlying34 Try.underlying3 mb (hd + 1) rfl rfl (HQ7.out.drewN nd).mp ?_
  intro w8 hm8 hg8
  refine only_end ?_
  simp only [Act.put]
  obtain ⟨hq8, hk8⟩ := (HQ7.out.drewN nd).mapped hm8 hg8
  replace hk8 := (hk7.drewN nd).trans (hk8.mono fun i hi => .inl hi)
  clear c2 c3 hm8 hg8 HQ7 hk7
  have HU := Lib.hid (up_any _ g (E ++ [e]) (hd + 1) (tn + 1) E.length w8 ⟨_, _, _, hq8⟩ (by simp) (by simp; omega) (heap_push hH e))
  clear hq8
  go_wp2_with fail
  refine HU.out.mono ?_
  rintro e9 w9 ⟨rfl, ⟨E', hp9, hperm, hheap⟩, hk9⟩
  have HR : Hid (Hp F w9 g E' (hd + 1) (tn + 1) ∧ E'.Perm (E ++ [⟨k, x, hd + 1, tn + 1⟩]) ∧ HeapB E') := ⟨hp9.less fun i hi => .inl hi, by rw [← HE.out]; exact hperm, hheap⟩
  have hk10 := hk8.trans (hk9.mono fun i hi => .inl hi)
  obtain ⟨A9, c9, mb9, hq9⟩ := hp9
  have c3 := hq9.c3
  clear hq9 hperm hheap hk9 HU hk8
  go_wp2_with fail
  go_ret
  exact ⟨rfl, ⟨E', HR.out.1, HR.out.2⟩, hk10⟩
end Go.Proofs.Ytlkgmedenbfhkaa
