/- Walks: the document's Want, where it wants. -/
import Derived.Test.YtdfklbjkcednhaaW15
import Derived.Test.YtdfklbjkcednhaaGrand2
import Derived.Test.YtdfklbjkcednhaaApp0
namespace Go.Proofs.Ytdfklbjkcednhaa
open Go.RowKit Go.Lib

theorem elRN : Elem Try.prog 43 64 3 24 := elem_mk Try.underlying43 (z := .agg #[.int .i64 0, .int .i64 0, .int .i64 0]) (by kernel_rfl) rfl (by omega)
theorem Own.off {α : Type} {enc : α → List Value} {sz B c q : Nat} {w : World} {e : TypeId} {A : Option Addr} {xs : List α} (h : Own enc sz w B e A c xs) (hq : q < B) : some q ≠ blk A := fun e => by have := (h.lt q e.symm).1; omega
theorem Own.off' {α : Type} {enc : α → List Value} {sz B c q : Nat} {w : World} {e : TypeId} {A : Option Addr} {xs : List α} (h : Own enc sz w B e A c xs) (hq : q < B) : blk A = none ∨ blk A ≠ some q := .inr fun e => h.off hq e.symm
/-- other notices are stored in a box of the document's board, and the whole is laid into the result's box -/
theorem rd_end {x x' : Rd} {w w6 : World} {g B N : Nat} (h : RdOk w x) (hx : x'.rT = x.rT) (ho : Own eNt 3 w6 B 64 x'.rA x'.rC x'.rL) (hN : x'.rL.length = N) (hgB : g + 1 < B) (hgw : w.heap.size = g)
    (b6 : Blk w6 g 47 (eRd x).toArray) (r6 : Blk w6 (g + 1) 47 zeroRd) (hB : Below w.heap.size w w6) :
    Blk (w6.setCell ⟨g, 0, none⟩ (.slice x'.rA N x'.rC)) g 47 (eRd x').toArray ∧ Blk (w6.setCell ⟨g, 0, none⟩ (.slice x'.rA N x'.rC)) (g + 1) 47 zeroRd ∧
    Blk ((w6.setCell ⟨g, 0, none⟩ (.slice x'.rA N x'.rC)).setCells (g + 1) 0 (eRd x')) (g + 1) 47 (eRd x').toArray ∧
    RdOk ((w6.setCell ⟨g, 0, none⟩ (.slice x'.rA N x'.rC)).setCells (g + 1) 0 (eRd x')) x' ∧ Below w.heap.size w ((w6.setCell ⟨g, 0, none⟩ (.slice x'.rA N x'.rC)).setCells (g + 1) 0 (eRd x')) := by
  subst hgw hN
  have hlen : (eRd x').length = 9 := by simp [eRd, hx, h.t8]
  have hs : (eRd x).toArray.setIfInBounds 0 (.slice x'.rA x'.rL.length x'.rC) = (eRd x').toArray := by simp [eRd, hx]
  have b7 := b6.set_ 0 (.slice x'.rA x'.rL.length x'.rC)
  rw [hs] at b7
  have r7 := r6.far (p := ⟨w.heap.size, 0, none⟩) (by show w.heap.size + 1 ≠ w.heap.size; omega) (.slice x'.rA x'.rL.length x'.rC)
  have hG := grown_setCells (w.heap.size + 1) (eRd x') 0 _ _ (only_refl (w6.setCell ⟨w.heap.size, 0, none⟩ (.slice x'.rA x'.rL.length x'.rC)) _)
  have hB2 := below_only (hB.setCell (p := ⟨w.heap.size, 0, none⟩) (Nat.le_refl _) (.slice x'.rA x'.rL.length x'.rC)) hG (by omega)
  have ho7 := (ho.kept (only_set (only_refl w6 w.heap.size) 0 (.slice x'.rA x'.rL.length x'.rC)) (ho.off' (by omega))).kept hG (ho.off' hgB)
  refine ⟨b7, r7, r7.fill _ (by rw [hlen]; rfl), ⟨ho7.sl eNt_ok, ho7.cap, ?_, by rw [hx]; exact h.t8, fun t ht => (h.tok t (by rw [hx] at ht; exact ht)).keep hB2, ho7.ty⟩, hB2⟩
  rcases ho7.shape with ⟨h1, _, h3⟩ | h1
  · exact .inl ⟨h1, h3⟩
  · exact .inr h1

set_option maxRecDepth 100000 in
set_option maxHeartbeats 8000000 in
theorem rwant_twice (x : Rd) (env frm now k : Int) (w : World) (h : RdOk w x) (hl : x.rL.length ≤ 500) (hw : wantOk env frm now k) (hp : 0 ≤ plcN x.rL env frm) :
    Calls Try.prog 12 #[.agg (eRd x).toArray, .int .i64 env, .int .i64 frm, .int .i64 now, .int .i64 k] w fun e w' => e = .returned (.tuple #[.agg (eRd x).toArray, .int .i64 7]) ∧ Below w.heap.size w w' := by
  obtain ⟨⟨e1, e2⟩, ⟨e3, e4⟩, ⟨e5, e6⟩, ⟨e7, e8⟩⟩ := hw
  have n1 : ¬ env < 0 := by omega
  have n2 : ¬ 7 < env := by omega
  have n3 : ¬ frm < 0 := by omega
  have n4 : ¬ 31 < frm := by omega
  have n5 : ¬ now < 0 := by omega
  have n6 : ¬ 1048576 < now := by omega
  have n7 : ¬ k < 1 := by omega
  have n8 : ¬ 65536 < k := by omega
  obtain ⟨b0, b1, hB⟩ := rd_boxes x w h _ rfl
  have hP := rat_any x env frm _ (h.keep hB) (by omega)
  obtain ⟨pl, hpl⟩ : ∃ pl, plcN x.rL env frm = pl := ⟨_, rfl⟩
  rw [hpl] at hP hp
  have hz := zero_rd
  have hlen := eRd_len h
  have hone := eRd_one x
  clear h hpl hl
  generalize eRd x = M at *
  have HP := Lib.hid hP
  have HX := Lib.hid (And.intro b0 (And.intro b1 (And.intro (rd_info M hlen) (And.intro (show zeroRd.size = M.length by rw [hlen]; rfl) hone))))
  have HB := Lib.hid hB
  clear b0 b1 hB hlen hone hP
  go_enter Try.func12, Try.ntmps12
  go_wp2_with (refine wpList_load_mid rfl 47 _ rfl w.heap.size 0 rfl M _ HX.out.1.range Try.underlying47 rfl HX.out.2.2.1 ?_)
  with_reducible refine HP.out.mono ?_
  rintro e w2 ⟨rfl, hb⟩
  have HX2 := Lib.hid (And.intro (HX.out.1.keep hb) (And.intro (HX.out.2.1.keep hb) HX.out.2.2))
  have HF := Lib.hid (And.intro (HX2.out.2.1.fill M (by rw [HX.out.2.2.2.1])) (below_only (bstep HB.out (Nat.le_refl _) hb) (grown_setCells (w.heap.size + 1) M 0 _ _ (only_refl _ _)) (by omega)))
  clear hb HP HB
  go_wp2_with (first | (refine wpList_load_mid rfl 47 _ rfl w.heap.size 0 rfl M _ HX2.out.1.range Try.underlying47 rfl HX.out.2.2.1 ?_) | (refine wpList_store_mid rfl 47 _ _ rfl (w.heap.size + 1) 0 M.toArray rfl rfl (HX2.out.2.1.there (by simp [HX.out.2.2.2.1])) (by simpa using HX.out.2.2.1) (all_oneCell_toArray HX.out.2.2.2.2) ?_))
  exact bodyPost_ret (results_cell_tmp rfl _ _ (w.heap.size + 1) M _ rfl HF.out.1.range Try.underlying47 rfl HX.out.2.2.1) rfl ⟨rfl, HF.out.2⟩

set_option maxRecDepth 100000 in
set_option maxHeartbeats 8000000 in
theorem rwant_new (x : Rd) (env frm now k : Int) (w : World) (h : RdOk w x) (hl : x.rL.length ≤ 500) (hw : wantOk env frm now k) (hp : plcN x.rL env frm < 0) :
    Calls Try.prog 12 #[.agg (eRd x).toArray, .int .i64 env, .int .i64 frm, .int .i64 now, .int .i64 k] w fun e w' => ∃ (A' : Option Addr) (c' : Nat), e = .returned (.tuple #[.agg (eRd ⟨A', x.rL ++ [⟨env, frm, now + k, 0⟩], c', x.rT⟩).toArray, .int .i64 0]) ∧ RdOk w' ⟨A', x.rL ++ [⟨env, frm, now + k, 0⟩], c', x.rT⟩ ∧ Below w.heap.size w w' := by
  obtain ⟨⟨e1, e2⟩, ⟨e3, e4⟩, ⟨e5, e6⟩, ⟨e7, e8⟩⟩ := hw
  have n1 : ¬ env < 0 := by omega
  have n2 : ¬ 7 < env := by omega
  have n3 : ¬ frm < 0 := by omega
  have n4 : ¬ 31 < frm := by omega
  have n5 : ¬ now < 0 := by omega
  have n6 : ¬ 1048576 < now := by omega
  have n7 : ¬ k < 1 := by omega
  have n8 : ¬ 65536 < k := by omega
  obtain ⟨b0, b1, hB⟩ := rd_boxes x w h _ rfl
  have hP := rat_any x env frm _ (h.keep hB) (by omega)
  obtain ⟨pl, hpl⟩ : ∃ pl, plcN x.rL env frm = pl := ⟨_, rfl⟩
  rw [hpl] at hP hp
  have np : ¬ 0 ≤ pl := by omega
  have hz := zero_rd
  have hlen := eRd_len h
  have hone := eRd_one x
  have HR := Lib.hid h
  obtain ⟨n, hn⟩ : ∃ n, n = x.rL.length := ⟨_, rfl⟩
  have hn5 : n ≤ 500 := by omega
  have HN := Lib.hid hn
  obtain ⟨M, hM⟩ : ∃ M, M = eRd x := ⟨_, rfl⟩
  rw [← hM] at b0 b1 hB hP hlen hone ⊢
  have h0 : M[0]? = some (.slice x.rA n x.rC) := by rw [hM, hn]; rfl
  have HM := Lib.hid (And.intro hM h0)
  have HP := Lib.hid hP
  have HX := Lib.hid (And.intro b0 (And.intro b1 (And.intro (rd_info M hlen) (And.intro (show zeroRd.size = M.length by rw [hlen]; rfl) hone))))
  have HB := Lib.hid hB
  clear b0 b1 hB hlen hone hP h hpl hl hn hM h0 hp
  go_enter Try.func12, Try.ntmps12
  go_wp2_with (refine wpList_load_mid rfl 47 _ rfl w.heap.size 0 rfl M _ HX.out.1.range Try.underlying47 rfl HX.out.2.2.1 ?_)
  with_reducible refine HP.out.mono ?_
  rintro e w2 ⟨rfl, hb⟩
  have b2 := HX.out.1.keep hb
  have c0 := b2.cell 0 (.slice x.rA n x.rC) (by rw [List.getElem?_toArray]; exact HM.out.2)
  have c1 := (b2.alloc (Obj.cells #[] 64)).cell 0 (.slice x.rA n x.rC) (by rw [List.getElem?_toArray]; exact HM.out.2)
  have z2 : w.heap.size + 1 < w2.heap.size := (HX.out.2.1.keep hb).lt
  have hs2 := HR.out.sl.keep (bstep HB.out (Nat.le_refl _) hb)
  have HX2 := Lib.hid (And.intro b2 (And.intro (HX.out.2.1.keep hb) (And.intro (bstep HB.out (Nat.le_refl _) hb) hs2)))
  clear hb HP HB b2 hs2
  go_wp2_with (first | (at_builtin; refine wpList_append_fresh _ rfl (.tmp 49) (.tmp 51) rfl elRN eNt_ok (Own.empty w2 64 (base := w2.heap.size) (Nat.le_refl _)) rfl rfl (m := n) (ys := x.rL) HN.out.symm (HX2.out.2.2.2.alloc _) (by simp only [maxLen]; omega) (by omega) (by simp) ?_; intro A3 c3 w3 own3 hb3; (have z3 : w2.heap.size + 1 ≤ w3.heap.size := by simpa using hb3.size); (have HA := Lib.hid (And.intro own3 hb3)); clear own3 hb3) | (at_builtin; refine wpList_append_sl _ rfl (.tmp 52) (.tmp 59) rfl elRN eNt_ok (HA.out.1.alloc _) (n := n) HN.out.symm rfl (m := 1) (ys := [⟨env, frm, now + k, 0⟩]) rfl rfl (Sl.new eNt_ok w3 ⟨env, frm, now + k, 0⟩ _ rfl _) (by simp only [maxLen]; omega) (by omega) (by simp; omega) _ rfl (n + 1) rfl ?_; intro A5 c5 w6 own6 hg6 at6; (have hb6 : Blk w6 w.heap.size 47 (eRd x).toArray := by rw [← HM.out.1]; exact ((((HX2.out.1.alloc _).keep HA.out.2).alloc _).grown hg6 (HA.out.1.off (by omega)))); (have r6 : Blk w6 (w.heap.size + 1) 47 zeroRd := (((HX2.out.2.1.alloc _).keep HA.out.2).alloc _).grown hg6 (HA.out.1.off (by omega))); (have hB6 : Below w.heap.size w w6 := bgrow (((HX2.out.2.2.1.alloc (by omega) _).trans (HA.out.2.mono (by simp; omega))).alloc (by omega) _) hg6 (fun q hq => by have := (HA.out.1.lt q hq).1; omega)); (have HE := rd_end (x' := ⟨A5, x.rL ++ [⟨env, frm, now + k, 0⟩], c5, x.rT⟩) (N := n + 1) HR.out rfl own6 (by simp [← HN.out]) (by omega) rfl hb6 r6 hB6); (have H6 := Lib.hid hb6); (obtain ⟨M2, hM2⟩ : ∃ M2, M2 = eRd ⟨A5, x.rL ++ [⟨env, frm, now + k, 0⟩], c5, x.rT⟩ := ⟨_, rfl⟩); rw [← hM2] at HE; (have HM2 := Lib.hid hM2); (have hl2 : M2.length = 9 := by rw [hM2]; simp [eRd, HR.out.t8]); (have HW := Lib.hid (And.intro (rd_info M2 hl2) (And.intro (show zeroRd.size = M2.length by rw [hl2]; rfl) (And.intro (show ∀ u ∈ M2, u.oneCell' = true by rw [hM2]; exact eRd_one _) HE)))); clear own6 hg6 at6 hb6 r6 hB6 HE hM2 hl2 z3) | (refine wpList_store_cell w6 rfl 43 _ _ rfl w.heap.size 0 (.slice A5 (n + 1) c5) rfl rfl (by kernel_rfl) rfl (H6.out.one (by simp [eRd])) ?_) | (refine wpList_load_mid rfl 47 _ rfl w.heap.size 0 rfl M2 _ HW.out.2.2.2.1.range Try.underlying47 rfl HW.out.1 ?_) | (refine wpList_store_mid rfl 47 _ _ rfl (w.heap.size + 1) 0 M2.toArray rfl rfl (HW.out.2.2.2.2.1.there (by simp [HW.out.2.1])) (by simpa using HW.out.1) (all_oneCell_toArray HW.out.2.2.1) ?_))
  exact bodyPost_ret (results_cell_tmp rfl _ _ (w.heap.size + 1) M2 _ rfl HW.out.2.2.2.2.2.1.range Try.underlying47 rfl HW.out.1) rfl ⟨A5, c5, by rw [HM2.out]; rfl, HW.out.2.2.2.2.2.2.1, HW.out.2.2.2.2.2.2.2⟩
end Go.Proofs.Ytdfklbjkcednhaa
