/- Walk: putting a frame in a vector. -/
import Derived.Test.YtdfklbjkcednhaaW9
import Derived.Laws.CopyOwn
namespace Go.Proofs.Ytdfklbjkcednhaa
open Go.RowKit Go.Lib

def putC (v : Vc) (x : Int) : Vc := if v.vS = 16 then ⟨v.vF.tail ++ [x], 16⟩ else ⟨v.vF.set v.vS x, v.vS + 1⟩
/-- the cells of a vector in a block -/
structure VB (w : World) (g o : Nat) (t : TypeId) (pre post : List Value) (v : Vc) : Prop where
  b : Blk w g t (pre ++ vcC v ++ post).toArray
  p : pre.length = o
  l : v.vF.length = 16
  s : v.vS ≤ 16
section
variable {w w' : World} {g o : Nat} {t : TypeId} {pre post : List Value} {v : Vc}
theorem VB.size (h : VB w g o t pre post v) : w.cell? ⟨g, o + 16, none⟩ = some (.int .i64 v.vS) := by
  refine h.b.cell (o + 16) _ ?_
  have := h.p
  have := h.l
  rw [List.getElem?_toArray, List.append_assoc, List.getElem?_append_right (by omega), show o + 16 - pre.length = 16 by omega]
  unfold vcC
  rw [List.append_assoc, List.getElem?_append_right (by simp; omega)]
  simp [this]
theorem VB.fr (h : VB w g o t pre post v) {i : Nat} (hi : i < 16) : w.cell? ⟨g, o + i, none⟩ = some (.int .i64 (v.vF.getD i 0)) := by
  refine h.b.cell (o + i) _ ?_
  have := h.p
  have := h.l
  rw [List.getElem?_toArray, List.append_assoc, List.getElem?_append_right (by omega), show o + i - pre.length = i by omega]
  unfold vcC
  rw [List.append_assoc, List.getElem?_append_left (by simp; omega)]
  simp [this, hi]
theorem VB.setF (h : VB w g o t pre post v) {i : Nat} (hi : i < 16) (x : Int) : VB (w.setCell ⟨g, o + i, none⟩ (.int .i64 x)) g o t pre post ⟨v.vF.set i x, v.vS⟩ := by
  have h1 := h.p
  have h2 := h.l
  refine ⟨?_, h1, by simp [h2], h.s⟩
  have := h.b.set_ (o + i) (.int .i64 x)
  rw [List.setIfInBounds_toArray, List.append_assoc, List.set_append_right _ _ (by omega), show o + i - pre.length = i by omega] at this
  unfold vcC at this ⊢
  rw [List.append_assoc, List.set_append_left _ _ (by simp; omega), ← List.append_assoc, ← List.append_assoc, ← List.map_set] at this
  simpa [List.append_assoc] using this
theorem VB.setS (h : VB w g o t pre post v) {n : Nat} (hn : n ≤ 16) : VB (w.setCell ⟨g, o + 16, none⟩ (.int .i64 n)) g o t pre post ⟨v.vF, n⟩ := by
  have h1 := h.p
  have h2 := h.l
  refine ⟨?_, h1, h2, hn⟩
  have := h.b.set_ (o + 16) (.int .i64 n)
  rw [List.setIfInBounds_toArray, List.append_assoc, List.set_append_right _ _ (by omega), show o + 16 - pre.length = 16 by omega] at this
  unfold vcC at this ⊢
  rw [List.append_assoc, List.set_append_right _ _ (by simp; omega)] at this
  simpa [List.append_assoc, h2] using this
theorem VB.lt (h : VB w g o t pre post v) : g < w.heap.size := h.b.lt
theorem VB.drewN (h : VB w g o t pre post v) (n : Nat) : VB (w.drewN n) g o t pre post v := ⟨h.b.drewN n, h.p, h.l, h.s⟩
theorem VB.fz (h : VB w g o t pre post v) (i : Nat) : w.frozen? ⟨g, i, none⟩ = false := h.b.frozen i
end

set_option maxRecDepth 100000 in
set_option maxHeartbeats 4000000 in
theorem put_less (g o : Nat) (t : TypeId) (pre post : List Value) (v : Vc) (x : Int) (w : World) (h : VB w g o t pre post v) (hs : v.vS < 16) :
    Calls Try.prog 21 #[.pointer (some ⟨g, o, none⟩), .int .i64 x] w fun e w' => e = .returned (.tuple #[]) ∧ VB w' g o t pre post ⟨v.vF.set v.vS x, v.vS + 1⟩ ∧ w.grownBy w' (some g) := by
  have c0 := h.size
  obtain ⟨n, hn⟩ : ∃ n, v.vS = n := ⟨_, rfl⟩
  rw [hn] at c0 hs ⊢
  have k0 : ¬ (n : Int) = 16 := by omega
  have HB := Lib.hid h
  have HN := Lib.hid hn
  clear h hn
  go_enter Try.func21, Try.ntmps21
  go_upto_region 3 with (fail)
  have HT : Hid (∀ z, (w.drewN z).there g (o + n) 1) := fun z => Blk.one (HB.out.drewN z).b (by have h1 := HB.out.p; have h2 := HB.out.l; simp [vcC]; omega)
  refine wp_region_chain [9] 41 (by kernel_rfl) (by kernel_rfl) (by rfl) ?_
  repeat (first | (refine ch_row (by rfl) ?_; (try simp only [Act.put, List.setIfInBounds_toArray, List.set_cons_zero, List.set_cons_succ])) | (refine ch_free (by rfl) (by rfl) (by rfl) (fun K hK => ?_); go_big_quiet_op; refine hK _ ?_; clear hK K) | (refine ch_read (by rfl) (by rfl) (by rfl) (fun K hK => ?_); go_big_quiet_op; refine hK _ ?_; clear hK K) | (refine ch_no (by rfl) (by rfl) ?_; (try simp only [Act.put, List.setIfInBounds_toArray, List.set_cons_zero, List.set_cons_succ])))
  refine ch_end ?_
  intro nd
  simp only [List.filterMap_cons, List.filterMap_nil, List.getElem?_cons_succ, List.getElem?_cons_zero]
  refine wpList_store_cell _ rfl 3 (.tmp 33) (.tmp 30) rfl g (o + n) (.int .i64 x) rfl rfl (by kernel_rfl) rfl (HT.out nd) ?_
  refine only_end ?_
  simp only [Act.put]
  refine at_world (F := Exit.then _ _ _ _) (fun W => VB W g o t pre post ⟨v.vF.set n x, v.vS⟩ ∧ w.grownBy W (some g)) ⟨(HB.out.drewN nd).setF hs x, only_set (only_drewN (only_refl w g) nd) _ _⟩ ?_
  rintro w2 ⟨hb2, hg2⟩
  have d0 := hb2.size
  have f0 := hb2.fz (o + 16)
  have hl := hb2.lt
  have hn2 := HN.out
  simp only [hn2] at d0
  have eN : ((n + 1 : Nat) : Int) = (n : Int) + 1 := by omega
  have H2 := Lib.hid (And.intro (hb2.setS (n := n + 1) (by omega)) (only_set hg2 (o + 16) (.int .i64 ((n + 1 : Nat) : Int))))
  rw [eN] at H2
  clear HT HB c0 hb2 hg2 hn2 eN
  go_wp2_with fail
  go_end0
  exact ⟨rfl, H2.out⟩

theorem shift_row (pre post : List Value) (v : Vc) (o : Nat) (hp : pre.length = o) (hl : v.vF.length = 16) :
    ((pre ++ vcC v ++ post).take o ++ (v.vF.tail.map (Value.int .i64 ·) ++ (pre ++ vcC v ++ post).drop (o + 15))) = pre ++ vcC ⟨v.vF.tail ++ [v.vF.getD 15 0], v.vS⟩ ++ post := by
  subst hp
  have e1 : pre ++ vcC v ++ post = pre ++ (vcC v ++ post) := List.append_assoc _ _ _
  have e2 : (pre ++ (vcC v ++ post)).take pre.length = pre := List.take_left
  have e3 : (pre ++ (vcC v ++ post)).drop (pre.length + 15) = (vcC v ++ post).drop 15 := by rw [← List.drop_drop, List.drop_left]
  have e4 : v.vF.drop 15 = [v.vF.getD 15 0] := by
    rw [List.drop_eq_getElem_cons (by omega), List.drop_eq_nil_of_le (by omega)]
    simp [hl]
  have e5 : (vcC v ++ post).drop 15 = [.int .i64 (v.vF.getD 15 0), .int .i64 v.vS] ++ post := by
    unfold vcC
    rw [List.drop_append_of_le_length (by simp; omega), List.drop_append_of_le_length (by simp; omega), ← List.map_drop, e4]
    rfl
  rw [e1, e2, e3, e5]
  unfold vcC
  simp
set_option maxRecDepth 100000 in
set_option maxHeartbeats 4000000 in
theorem put_full (g o : Nat) (t : TypeId) (pre post : List Value) (v : Vc) (x : Int) (w : World) (h : VB w g o t pre post v) (hs : v.vS = 16) :
    Calls Try.prog 21 #[.pointer (some ⟨g, o, none⟩), .int .i64 x] w fun e w' => e = .returned (.tuple #[]) ∧ VB w' g o t pre post ⟨v.vF.tail ++ [x], 16⟩ ∧ w.grownBy w' (some g) := by
  have c0 := h.size
  rw [hs] at c0
  have HB := Lib.hid h
  have HN := Lib.hid hs
  clear h hs
  go_enter Try.func21, Try.ntmps21
  go_upto_region 1 with (fail)
  refine wp_region_chain [8] 41 (by kernel_rfl) (by kernel_rfl) (by rfl) ?_
  repeat (first | (refine ch_row (by rfl) ?_; (try simp only [Act.put, List.setIfInBounds_toArray, List.set_cons_zero, List.set_cons_succ])) | (refine ch_free (by rfl) (by rfl) (by rfl) (fun K hK => ?_); go_big_quiet_op; refine hK _ ?_; clear hK K) | (refine ch_read (by rfl) (by rfl) (by rfl) (fun K hK => ?_); go_big_quiet_op; refine hK _ ?_; clear hK K) | (refine ch_no (by rfl) (by rfl) ?_; (try simp only [Act.put, List.setIfInBounds_toArray, List.set_cons_zero, List.set_cons_succ])))
  refine ch_end ?_
  intro nd
  simp only [List.filterMap_cons, List.filterMap_nil, List.getElem?_cons_succ, List.getElem?_cons_zero]
  have hcs : Hid ((v.vF.tail.map (Value.int .i64 ·)).length = 15) := by unfold Hid; simp [HB.out.l]
  refine wpList_copy_own rfl (.tmp 12) (.tmp 16) 44 44 rfl 3 Try.underlying44 (by kernel_rfl) g o 16 16 ⟨g, o + 1, none⟩ 15 15 rfl rfl (pre ++ vcC v ++ post).toArray t (HB.out.drewN nd).b (v.vF.tail.map (Value.int .i64 ·)) (by rw [hcs.out]; rfl) (fun j u hu => ?_) (by have h1 := HB.out.p; have h2 := HB.out.l; rw [hcs.out]; simp [vcC]; omega) (fun u hu => by obtain ⟨z, _, rfl⟩ := List.mem_map.1 hu; rfl) ?_
  · have hj : j < 15 := by rw [← hcs.out]; exact (List.getElem?_eq_some_iff.1 hu).1
    have h2 := HB.out.l
    rw [List.getElem?_map, List.getElem?_tail, List.getElem?_eq_getElem (by omega)] at hu
    injection hu with hu
    have := (HB.out.drewN nd).fr (i := j + 1) (by omega)
    rw [Addr.add_lit, ← hu]
    rw [show o + 1 + j = o + (j + 1) by omega, this]
    simp [List.getElem?_eq_getElem (show j + 1 < v.vF.length by omega)]
  refine only_end ?_
  rw [hcs.out]
  have HS := Lib.hid (shift_row pre post v o HB.out.p HB.out.l)
  simp only [List.toList_toArray]
  rw [HS.out]
  refine at_world (F := Exit.then _ _ _ _) (fun W => VB W g o t pre post ⟨v.vF.tail ++ [v.vF.getD 15 0], v.vS⟩ ∧ w.grownBy W (some g)) ⟨⟨?_, HB.out.p, by have := HB.out.l; simp; omega, HB.out.s⟩, ?_⟩ ?_
  · exact setRow_heap (w.drewN nd) g _ _ t _ (HB.out.drewN nd).b
  · have h := only_drewN (only_refl w g) nd
    exact ⟨h.os, h.tape, h.output, by simp [World.setRow, World.drewN], fun i hi hne => (setRow_other _ g i _ (fun e => hne (by rw [e]))).trans (h.block i hi hne)⟩
  rintro w2 ⟨hb2, hg2⟩
  have d0 := hb2.size
  have f0 := hb2.fz (o + 16)
  have hl := hb2.lt
  have hn2 := HN.out
  simp only [hn2] at d0
  have hb3 := hb2.setS (n := 15) (by omega)
  have hg3 := only_set hg2 (o + 16) (.int .i64 ((15 : Nat) : Int))
  have H2 := Lib.hid (And.intro hb3 hg3)
  clear hb2 hg2 hb3 hg3 HB HS hcs c0
  simp only [Act.put]
  go_upto_region 3 with (fail)
  refine at_world (F := Code.wp _ _ _ _) (fun W => VB W g o t pre post ⟨v.vF.tail ++ [v.vF.getD 15 0], 15⟩ ∧ w.grownBy W (some g)) H2.out ?_
  rintro w3 ⟨hb3, hg3⟩
  clear d0 f0 hl hn2 H2
  have c0 := hb3.size
  have HB := Lib.hid (And.intro hb3 hg3)
  have HT : Hid (∀ z, (w3.drewN z).there g (o + 15) 1) := fun z => Blk.one (HB.out.1.drewN z).b (by have h1 := HB.out.1.p; have h2 := HB.out.1.l; simp [vcC] at h2 ⊢; omega)
  clear hb3 hg3
  refine wp_region_chain [9] 41 (by kernel_rfl) (by kernel_rfl) (by rfl) ?_
  repeat (first | (refine ch_row (by rfl) ?_; (try simp only [Act.put, List.setIfInBounds_toArray, List.set_cons_zero, List.set_cons_succ])) | (refine ch_free (by rfl) (by rfl) (by rfl) (fun K hK => ?_); go_big_quiet_op; refine hK _ ?_; clear hK K) | (refine ch_read (by rfl) (by rfl) (by rfl) (fun K hK => ?_); go_big_quiet_op; refine hK _ ?_; clear hK K) | (refine ch_no (by rfl) (by rfl) ?_; (try simp only [Act.put, List.setIfInBounds_toArray, List.set_cons_zero, List.set_cons_succ])))
  refine ch_end ?_
  intro nd
  simp only [List.filterMap_cons, List.filterMap_nil, List.getElem?_cons_succ, List.getElem?_cons_zero]
  refine wpList_store_cell _ rfl 3 (.tmp 33) (.tmp 30) rfl g (o + 15) (.int .i64 x) rfl rfl (by kernel_rfl) rfl (HT.out nd) ?_
  refine only_end ?_
  simp only [Act.put]
  refine at_world (F := Exit.then _ _ _ _) (fun W => VB W g o t pre post ⟨(v.vF.tail ++ [v.vF.getD 15 0]).set 15 x, 15⟩ ∧ w.grownBy W (some g)) ⟨(HB.out.1.drewN nd).setF (by omega) x, only_set (only_drewN HB.out.2 nd) _ _⟩ ?_
  rintro w4 ⟨hb4, hg4⟩
  clear HT HB c0
  have hl9 := hb4.l
  have e9 : (v.vF.tail ++ [v.vF.getD 15 0]).set 15 x = v.vF.tail ++ [x] := by
    simp at hl9
    rw [List.set_append_right _ _ (by simp; omega)]
    congr 1
    rw [show 15 - v.vF.tail.length = 0 by simp; omega]
    rfl
  rw [e9] at hb4
  have d0 := hb4.size
  have f0 := hb4.fz (o + 16)
  have hl := hb4.lt
  have H2 := Lib.hid (And.intro (hb4.setS (n := 16) (by omega)) (only_set hg4 (o + 16) (.int .i64 ((16 : Nat) : Int))))
  clear hb4 hg4 hl9 e9
  go_wp2_with fail
  go_end0
  exact ⟨rfl, H2.out⟩
theorem put_any (g o : Nat) (t : TypeId) (pre post : List Value) (v : Vc) (x : Int) (w : World) (h : VB w g o t pre post v) :
    Calls Try.prog 21 #[.pointer (some ⟨g, o, none⟩), .int .i64 x] w fun e w' => e = .returned (.tuple #[]) ∧ VB w' g o t pre post (putC v x) ∧ w.grownBy w' (some g) := by
  unfold putC
  have := h.s
  by_cases hs : v.vS = 16
  · rw [if_pos hs]; exact put_full g o t pre post v x w h hs
  · rw [if_neg hs]; exact put_less g o t pre post v x w h (by omega)
end Go.Proofs.Ytdfklbjkcednhaa
