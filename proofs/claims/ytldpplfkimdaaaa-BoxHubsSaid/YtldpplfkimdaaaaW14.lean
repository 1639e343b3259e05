/- Walks: a Put, done to both; what is done to both. -/
import Derived.Test.YtldpplfkimdaaaaW13
namespace Go.Proofs.Ytldpplfkimdaaaa
open Go.RowKit Go.Conc Go.Lib

/-- what the slots of the region hold -/
def PutD (wb : World) (x : RbS) (l : Lt) (d : Nat) (v : Value) (w : World) : Prop :=
  if d = 14 then ∃ g, v = .pointer (some ⟨g, 0, none⟩) ∧ Blk w g 43 #[.slice none 0 0, .int .i64 0, .bool false] ∧ wb.heap.size ≤ g
  else ∃ x' : RbS, v = (if d = 70 then .agg #[.slice x'.a x'.b.l.length x'.c, .int .i64 x'.b.room, .bool x'.b.shut] else .tuple #[.agg #[.slice x'.a x'.b.l.length x'.c, .int .i64 x'.b.room, .bool x'.b.shut], .int .i64 (putE x.b)]) ∧ x'.b = putB x.b l ∧ RbOk w x' ∧ NewOr wb x.a x'.a
theorem putD14 {wb : World} {x : RbS} {l : Lt} {v : Value} {w : World} : PutD wb x l 14 v w ↔ ∃ g, v = .pointer (some ⟨g, 0, none⟩) ∧ Blk w g 43 #[.slice none 0 0, .int .i64 0, .bool false] ∧ wb.heap.size ≤ g := by simp [PutD]
theorem putD70 {wb : World} {x : RbS} {l : Lt} {v : Value} {w : World} : PutD wb x l 70 v w ↔ ∃ x' : RbS, v = .agg #[.slice x'.a x'.b.l.length x'.c, .int .i64 x'.b.room, .bool x'.b.shut] ∧ x'.b = putB x.b l ∧ RbOk w x' ∧ NewOr wb x.a x'.a := by simp [PutD]
def PutR (wb : World) (x : RbS) (l : Lt) (v : Value) (w : World) : Prop := ∃ x' : RbS, v = .tuple #[.agg #[.slice x'.a x'.b.l.length x'.c, .int .i64 x'.b.room, .bool x'.b.shut], .int .i64 (putE x.b)] ∧ x'.b = putB x.b l ∧ RbOk w x' ∧ NewOr wb x.a x'.a
theorem putD69 {wb : World} {x : RbS} {l : Lt} {v : Value} {w : World} : PutD wb x l 69 v w ↔ PutR wb x l v w := by simp [PutD, PutR]
theorem putD64 {wb : World} {x : RbS} {l : Lt} {v : Value} {w : World} : PutD wb x l 64 v w ↔ PutR wb x l v w := by simp [PutD, PutR]
theorem PutD.keep {wb : World} {x : RbS} {l : Lt} {d : Nat} {v : Value} {w w' : World} (h : PutD wb x l d v w) (hz : Keeps w w') : PutD wb x l d v w' := by
  unfold PutD at *
  by_cases h1 : d = 14
  · rw [if_pos h1] at h ⊢
    obtain ⟨g, a1, a2, a3⟩ := h
    exact ⟨g, a1, a2.keep hz, a3⟩
  · rw [if_neg h1] at h ⊢
    obtain ⟨x', a1, a2, a3, a4⟩ := h
    exact ⟨x', a1, a2, a3.keep hz, a4⟩

set_option maxRecDepth 100000 in
set_option maxHeartbeats 4000000 in
theorem does_put (x : RbS) (g q o : Nat) (a : ActS) (w : World) (hk1 : a.kind ≠ 1) (hk2 : a.kind ≠ 2) (hb : Bx w g x.b) (hx : RbOk w x) (hat : At w q o x) (hq : q ≠ g ∧ q ≠ g + 1) (hA : ∀ k, blk x.a = some k → k ≠ g ∧ k ≠ g + 1) (hqx : blk x.a ≠ some q) (hgl : g + 1 < w.heap.size) :
    Calls Try.prog 13 #[.pointer (some ⟨g + 1, 0, none⟩), .pointer (some ⟨q, o, none⟩), .agg #[.int .i64 a.kind, .int .i64 a.at_, .int .i64 a.to, .int .i64 a.n, .int .u64 a.w]] w fun e w' =>
      e = .returned (.bool true) ∧ ∃ x' : RbS, x'.b = putB x.b ⟨a.n, a.w⟩ ∧ Bx w' g x'.b ∧ RbOk w' x' ∧ NewOr w x.a x'.a ∧ Dn w w' g q o (eRb x') := by
  have hB0 : Below w.heap.size w ((w.alloc (Obj.cells #[.int .i64 a.kind, .int .i64 a.at_, .int .i64 a.to, .int .i64 a.n, .int .u64 a.w] 30)).alloc (Obj.cells #[.int .i64 a.n, .int .u64 a.w] 59)) := (below1 _ _).alloc (by simp) _
  have b1 := Blk.new' (w.alloc (Obj.cells #[.int .i64 a.kind, .int .i64 a.at_, .int .i64 a.to, .int .i64 a.n, .int .u64 a.w] 30)) 59 #[.int .i64 a.n, .int .u64 a.w] (g := w.heap.size + 1) (by simp)
  have e1 : (a.kind == 1) = false := by simpa using hk1
  have e2 : (a.kind == 2) = false := by simpa using hk2
  have hql := hat.lt
  have hbx1 := hb.keep hB0
  have at1 := hat.keep hB0
  have hx1 := hx.keep hB0
  have hC1 := Ch.of_below (g := g) hB0
  clear hk1 hk2 hb hx hat hB0
  go_enter Try.func13, Try.ntmps13
  go_upto_region 12 with (fail)
  generalize (w.alloc (Obj.cells #[.int .i64 a.kind, .int .i64 a.at_, .int .i64 a.to, .int .i64 a.n, .int .u64 a.w] 30)).alloc (Obj.cells #[.int .i64 a.n, .int .u64 a.w] 59) = wb at *
  have hs1 := hC1.size
  obtain ⟨c0, c1, c2⟩ : _ ∧ _ ∧ _ := ⟨at1.c0, at1.c1, at1.c2⟩
  have y0 := b1.cell 0 (.int .i64 a.n) rfl
  have y1 := b1.cell 1 (.int .u64 a.w) rfl
  have HX := Lib.hid hx1
  have HP : Hid (∀ W : World, Keeps wb W → Calls Try.prog 25 #[.agg #[.slice x.a x.b.l.length x.c, .int .i64 x.b.room, .bool x.b.shut], .agg #[.int .i64 a.n, .int .u64 a.w]] W fun e w' => ∃ v, e = .returned v ∧ Keeps W w' ∧ PutD wb x ⟨a.n, a.w⟩ 69 v w') := fun W hW => (rput_any x ⟨a.n, a.w⟩ W (hx1.keep hW)).mono fun e w' ⟨x', h1, h2, h3, h4, h5⟩ => ⟨_, h1, h5, putD69.2 ⟨x', rfl, h2, h3, h4.imp id (fun h q hq => Nat.le_trans (Below.size hW) (h q hq))⟩⟩
  have aft_c0 := cw_cell c0
  have aft_c1 := cw_cell c1
  have aft_c2 := cw_cell c2
  have aft_y0 := cw_cell y0
  have aft_y1 := cw_cell y1
  refine wp_region_grand (Keeps _) (fun _ => Keeps) [14, 64, 69, 70] (PutD wb x ⟨a.n, a.w⟩) [9] [] 81 (keeps_drew _) (fun _ _ _ h hz => keeps_trans h hz) (fun _ d hd _ v w w' _ h hz => h.keep hz) (by kernel_rfl) (by kernel_rfl) (by rfl) ?_
  repeat (first | (refine gr_row (by rfl) ?_; (try simp only [Act.put, List.setIfInBounds_toArray, List.set_cons_zero, List.set_cons_succ])) | (refine gr_free (by rfl) (by rfl) (by rfl) (by rfl) (by rfl) (fun K hK => ?_); go_big_quiet_op; refine hK _ ?_; clear hK K) | (refine gr_q (by rfl) (by rfl) (by rfl) (by rfl) (by rfl) (by rfl) (fun K hK => ?_); go_big_quiet_op; refine hK _ ?_; clear hK K) | (refine gr_no (by rfl) (by rfl) (by rfl) ?_; (try simp only [Act.put, List.setIfInBounds_toArray, List.set_cons_zero, List.set_cons_succ])) | (refine gr_call (by rfl) (by rfl) (by rfl) (by rfl) (by rfl) (fun K hK => ?_); go_simp; (try simp only [RUp, true_and]); first | (apply Exists.intro; refine ⟨fun n => rfl, hK _ ?_⟩; clear hK K; (try simp only [Act.put, List.setIfInBounds_toArray, List.set_cons_zero, List.set_cons_succ]))) | (refine gr_n 69 [] (by rfl) (by rfl) (by rfl) (by rfl) (fun γ w hC hT => ?_) ?_; (simp only [putG]; go_simp; exact gup_f (HP.out w hC)); (try simp only [Act.put, List.setIfInBounds_toArray, List.set_cons_zero, List.set_cons_succ])) | (refine gr_n 64 [69] (by rfl) (by rfl) (by rfl) (by rfl) (fun γ w hC hT => ?_) ?_; (obtain ⟨x', hv, h2, h3, h4⟩ := putD69.1 (hT 69 (by simp)); have H2 := Lib.hid h2; clear h2; simp only [putG, Act.put, List.setIfInBounds_toArray, List.set_cons_zero, List.set_cons_succ]; rw [hv]; go_simp; exact gup_v (Below.refl _ _) (putD64.2 ⟨x', rfl, H2.out, h3, h4⟩)); (try simp only [Act.put, List.setIfInBounds_toArray, List.set_cons_zero, List.set_cons_succ])) | (refine gr_n 70 [64] (by rfl) (by rfl) (by rfl) (by rfl) (fun γ w hC hT => ?_) ?_; (obtain ⟨x', hv, h2, h3, h4⟩ := putD64.1 (hT 64 (by simp)); have H2 := Lib.hid h2; clear h2; simp only [putG, Act.put, List.setIfInBounds_toArray, List.set_cons_zero, List.set_cons_succ]; rw [hv]; go_simp; exact gup_v (Below.refl _ _) (putD70.2 ⟨x', rfl, H2.out, h3, h4⟩)); (try simp only [Act.put, List.setIfInBounds_toArray, List.set_cons_zero, List.set_cons_succ])) | (refine gr_n 14 [] (by rfl) (by rfl) (by rfl) (by rfl) (fun γ w hC hT => ?_) ?_; (simp only [putG]; go_simp; exact gup_v (below1 w _) (putD14.2 ⟨_, rfl, Blk.new w _ _, Below.size hC⟩)); (try simp only [Act.put, List.setIfInBounds_toArray, List.set_cons_zero, List.set_cons_succ])) | (refine gr_u (.int .i64 (putE x.b)) [64] (by rfl) (by rfl) (by rfl) (by simp) (by rfl) (by rfl) (fun γ w hC hT => ?_) ?_; (obtain ⟨x', hv, h2, h3, h4⟩ := putD64.1 (hT 64 (by simp)); have H2 := Lib.hid h2; clear h2; simp only [putG, Act.put, List.setIfInBounds_toArray, List.set_cons_zero, List.set_cons_succ]; rw [hv]; go_simp; exact gup_v (Below.refl _ _) rfl); (try simp only [Act.put, List.setIfInBounds_toArray, List.set_cons_zero, List.set_cons_succ])) | (refine gr_uf (.int .i64 (putE x.b)) [64] (by rfl) (by rfl) (by rfl) (by simp) (by rfl) (by rfl) (fun γ w hC hT w2 => ?_) ?_; (obtain ⟨x', hv, h2, h3, h4⟩ := putD64.1 (hT 64 (by simp)); have H2 := Lib.hid h2; clear h2; simp only [putG, Act.put, List.setIfInBounds_toArray, List.set_cons_zero, List.set_cons_succ]; rw [hv]; go_simp; exact gup_v rfl rfl); (try simp only [Act.put, List.setIfInBounds_toArray, List.set_cons_zero, List.set_cons_succ])))
  refine gr_end ?_
  intro γ w2 hb2 hT
  clear aft_c0 aft_c1 aft_c2 aft_y0 aft_y1
  simp only [putG, Act.put, List.setIfInBounds_toArray, List.set_cons_zero, List.set_cons_succ]
  simp only [List.filterMap_cons, List.filterMap_nil, List.getElem?_cons_succ, List.getElem?_cons_zero]
  obtain ⟨gy, h14, bY, hgy⟩ := putD14.1 (hT 14 (by simp))
  obtain ⟨x', h70, hxb, hx2, hnew⟩ := putD70.1 (hT 70 (by simp))
  have HXB := Lib.hid hxb
  clear hxb
  rw [h14, h70]
  generalize γ 69 = v69 at *
  generalize γ 64 = v64 at *
  clear hT HP h14 h70
  refine wpList_store_mid rfl 43 _ _ rfl gy 0 #[.slice x'.a x'.b.l.length x'.c, .int .i64 x'.b.room, .bool x'.b.shut] rfl rfl (bY.there (by simp)) (by kernel_rfl) (by simp [Value.oneCell']) ?_
  refine only_end ?_
  simp only [Act.put, List.setIfInBounds_toArray, List.set_cons_zero, List.set_cons_succ]
  have bZ := bY.fill [.slice x'.a x'.b.l.length x'.c, .int .i64 x'.b.room, .bool x'.b.shut] rfl
  have hK := kp_cells gy 0 [.slice x'.a x'.b.l.length x'.c, .int .i64 x'.b.room, .bool x'.b.shut] w2
  have hny := hx2.ne bY (by decide)
  have hs2 := Below.size hb2
  have hbx2 := (hbx1.keep hb2).kp hK ⟨by have := (hbx1.keep hb2).1.lt; exact this, by omega⟩ ⟨by have := (hbx1.keep hb2).2.lt; exact this, by omega⟩
  have at2 := (at1.keep hb2).block (hK.block q ⟨(at1.keep hb2).lt, by omega⟩)
  have y2 := hK.blk (b1.keep hb2) ⟨(b1.keep hb2).lt, by have := b1.lt; omega⟩
  have hx3 := hx2.kp hK (fun k hk => ⟨hx2.lt k hk, fun e => hny (e ▸ hk)⟩)
  have hC2 : Ch w (w2.setCells gy 0 [.slice x'.a x'.b.l.length x'.c, .int .i64 x'.b.room, .bool x'.b.shut]) g := hC1.low' ((below_only hb2 (grown_setCells gy _ 0 w2 w2 (only_refl w2 gy)) hgy))
  clear hK hny hs2 hbx1 at1 b1 hx2 hC1 bY hb2 hx1 HX c0 c1 c2 y0 y1
  generalize w2.setCells gy 0 [.slice x'.a x'.b.l.length x'.c, .int .i64 x'.b.room, .bool x'.b.shut] = w3 at *
  obtain ⟨c0, c1, c2⟩ : _ ∧ _ ∧ _ := ⟨bZ.cell 0 (.slice x'.a x'.b.l.length x'.c) rfl, bZ.cell 1 (.int .i64 x'.b.room) rfl, bZ.cell 2 (.bool x'.b.shut) rfl⟩
  obtain ⟨d0, d1, d2⟩ : _ ∧ _ ∧ _ := ⟨at2.c0, at2.c1, at2.c2⟩
  obtain ⟨f0, f1, f2⟩ : _ ∧ _ ∧ _ := ⟨at2.f0, at2.f1, at2.f2⟩
  go_upto_region 14 with (fail)
  have hqne : blk x'.a ≠ some q := by
    rcases hnew with h | h
    · rw [h]; exact hqx
    · intro e; have := h q e; omega
  have hD : Dn w (((w3.setCell ⟨q, o, none⟩ (.slice x'.a x'.b.l.length x'.c)).setCell ⟨q, o + 1, none⟩ (.int .i64 x'.b.room)).setCell ⟨q, o + 2, none⟩ (.bool x'.b.shut)) g q o (eRb x') := Dn.mk' hC2 rfl
  have hK : Kp _ w3 (((w3.setCell ⟨q, o, none⟩ (.slice x'.a x'.b.l.length x'.c)).setCell ⟨q, o + 1, none⟩ (.int .i64 x'.b.room)).setCell ⟨q, o + 2, none⟩ (.bool x'.b.shut)) := kp_cells q o (eRb x') w3
  have y3 := hK.blk y2 ⟨y2.lt, by omega⟩
  have hb3 := hbx2.kp hK ⟨hbx2.1.lt, Ne.symm hq.1⟩ ⟨hbx2.2.lt, Ne.symm hq.2⟩
  have hx4 := hx3.kp hK (fun k hk => ⟨hx3.lt k hk, fun e => hqne (e ▸ hk)⟩)
  clear hK c0 c1 c2 d0 d1 d2 f0 f1 f2 at2 hbx2 hC2 hx3 y2 bZ
  generalize ((w3.setCell ⟨q, o, none⟩ (.slice x'.a x'.b.l.length x'.c)).setCell ⟨q, o + 1, none⟩ (.int .i64 x'.b.room)).setCell ⟨q, o + 2, none⟩ (.bool x'.b.shut) = w4 at *
  have y0 := y3.cell 0 (.int .i64 a.n) rfl
  have y1 := y3.cell 1 (.int .u64 a.w) rfl
  go_wp2_with fail
  refine (to_any ⟨a.n, a.w⟩ _).mono ?_
  rintro e w5 ⟨rfl, hb5⟩
  replace hb3 := hb3.keep hb5
  replace hx4 := hx4.keep hb5
  replace hD := hD.below hb5
  clear hb5 y3 y0 y1
  go_wp2_with fail
  refine (put_any x.b ⟨a.n, a.w⟩ g _ hb3).mono ?_
  rintro e w6 ⟨rfl, hb6, hc6⟩
  have hx6 := hx4.ch hc6 (fun k hk => by
    rcases hnew with h | h
    · rw [h] at hk; exact hA k hk
    · have := h k hk; omega)
  replace hD := hD.ch hc6
  go_wp2_with fail
  go_ret
  exact ⟨rfl, x', HXB.out, HXB.out ▸ hb6, hx6, hnew.imp id (fun h q hq => Nat.le_trans hs1 (h q hq)), hD⟩

def doB (b : BoxS) (a : ActS) : BoxS := if a.kind = 1 then takeB b else if a.kind = 2 then shutB b else putB b ⟨a.n, a.w⟩
theorem does_any (x : RbS) (g q o : Nat) (a : ActS) (w : World) (hb : Bx w g x.b) (hx : RbOk w x) (hat : At w q o x) (hq : q ≠ g ∧ q ≠ g + 1) (hA : ∀ k, blk x.a = some k → k ≠ g ∧ k ≠ g + 1) (hqx : blk x.a ≠ some q) :
    Calls Try.prog 13 #[.pointer (some ⟨g + 1, 0, none⟩), .pointer (some ⟨q, o, none⟩), .agg #[.int .i64 a.kind, .int .i64 a.at_, .int .i64 a.to, .int .i64 a.n, .int .u64 a.w]] w fun e w' =>
      e = .returned (.bool true) ∧ ∃ x' : RbS, x'.b = doB x.b a ∧ Bx w' g x'.b ∧ RbOk w' x' ∧ NewOr w x.a x'.a ∧ Dn w w' g q o (eRb x') := by
  unfold doB
  by_cases h1 : a.kind = 1
  · simp only [h1, if_true]
    rw [← h1]
    exact does_take x g q o a w h1 hb hx hat hq hA hqx
  · by_cases h2 : a.kind = 2
    · rw [if_neg h1, if_pos h2]
      exact does_shut x g q o a w h2 hb hx hat hq hA hqx
    · rw [if_neg h1, if_neg h2]
      exact does_put x g q o a w h1 h2 hb hx hat hq hA hqx hb.2.lt
end Go.Proofs.Ytldpplfkimdaaaa
