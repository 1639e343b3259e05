/- Walks: Load. -/
import Derived.Test.YtfaddnedlloaiaaW3
import Derived.Test.YtfaddnedlloaiaaW3r
import Derived.Deep.DeepCutAuto
import Derived.Deep.CutBlock
namespace Go.Proofs.Ytfaddnedlloaiaa
open Go.RowKit Go.Lib

def RetLd (g : Nat) (L : List En) (h m : Int) (w : World) (e : Ending) (w' : World) : Prop := ∃ (y : En) (b : Bool) (A : Option Addr) (c : Nat), e = .returned (.tuple #[.agg #[.int .i64 y.env, .int .i64 y.page, .int .i64 y.frame, .bool y.write], .bool b, .int .i64 0]) ∧ Tb w' g A c L h m ∧ Below g w w'
theorem gone_len (L : List En) (X : En) : (goneL L X).length ≤ L.length := by
  unfold goneL
  cases fi L X.env X.page with
  | none => simp only; split <;> simp [List.length_eraseIdx_le]
  | some i => exact List.length_eraseIdx_le _ _
def zeroE : En := ⟨0, 0, 0, false⟩

set_option maxHeartbeats 1000000 in
theorem load_no (X : En) (g : Nat) (w : World) (hX : rightE X = false) :
    Calls Try.prog 6 #[.pointer (some ⟨g, 0, none⟩), .agg #[.int .i64 X.env, .int .i64 X.page, .int .i64 X.frame, .bool X.write]] w fun e w' => e = .returned (.tuple #[.agg #[.int .i64 0, .int .i64 0, .int .i64 0, .bool false], .bool false, .int .i64 1]) ∧ Below w.heap.size w w' := by
  have hr := Lib.hid (fun W => right_any X W)
  rw [hX] at hr
  have hB : Below w.heap.size w ((w.alloc (Obj.cells #[.int .i64 X.env, .int .i64 X.page, .int .i64 X.frame, .bool X.write] 31)).alloc (Obj.cells #[.int .i64 0, .int .i64 0, .int .i64 0, .bool false] 31)) := (below1 _ _).alloc (by simp) _
  have r1 := Blk.new' (w.alloc (Obj.cells #[.int .i64 X.env, .int .i64 X.page, .int .i64 X.frame, .bool X.write] 31)) 31 #[.int .i64 0, .int .i64 0, .int .i64 0, .bool false] (g := w.heap.size + 1) (by simp)
  go_enter Try.func6, Try.ntmps6
  go_wp2_with fail
  refine (hr.out _).mono ?_
  rintro e w2 ⟨rfl, hb⟩
  replace hB := bstep hB (Nat.le_refl _) hb
  replace r1 := r1.keep hb
  have HR := Lib.hid r1
  have v0 := r1.cell 0 (.int .i64 0) rfl
  have v1 := r1.cell 1 (.int .i64 0) rfl
  have v2 := r1.cell 2 (.int .i64 0) rfl
  have v3 := r1.cell 3 (.bool false) rfl
  have g0 := r1.frozen 0
  have g1 := r1.frozen 1
  have g2 := r1.frozen 2
  have g3 := r1.frozen 3
  clear r1 hb
  go_wp2_with fail
  obtain ⟨d0, d1, d2, d3⟩ : _ ∧ _ ∧ _ ∧ _ := ⟨(put4_blk zeroE HR.out).cell 0 (.int .i64 0) rfl, (put4_blk zeroE HR.out).cell 1 (.int .i64 0) rfl, (put4_blk zeroE HR.out).cell 2 (.int .i64 0) rfl, (put4_blk zeroE HR.out).cell 3 (.bool false) rfl⟩
  change bodyPost _ _ _ _ _ (put4 w2 (w.heap.size + 1) zeroE)
  exact bodyPost_ret (v := .tuple #[.agg #[.int .i64 0, .int .i64 0, .int .i64 0, .bool false], .bool false, .int .i64 1]) (by simp [results, Try.results6, go_sem, d0, d1, d2, d3]) rfl ⟨rfl, below_only hB (put4_only _ _ _) (by omega)⟩

set_option maxRecDepth 100000 in
set_option maxHeartbeats 4000000 in
theorem load_yes (X : En) (g : Nat) (A : Option Addr) (c : Nat) (L : List En) (h m : Int) (w : World) (hX : rightE X = true) (ht : Tb w g A c L h m) (hl : L.length ≤ 100) :
    Calls Try.prog 6 #[.pointer (some ⟨g, 0, none⟩), .agg #[.int .i64 X.env, .int .i64 X.page, .int .i64 X.frame, .bool X.write]] w (RetLd g (ld L X) h m w) := by
  have hr := Lib.hid (fun W => right_any X W)
  rw [hX] at hr
  have hB : Below w.heap.size w ((w.alloc (Obj.cells #[.int .i64 X.env, .int .i64 X.page, .int .i64 X.frame, .bool X.write] 31)).alloc (Obj.cells #[.int .i64 0, .int .i64 0, .int .i64 0, .bool false] 31)) := (below1 _ _).alloc (by simp) _
  have r4 := Blk.new' (w.alloc (Obj.cells #[.int .i64 X.env, .int .i64 X.page, .int .i64 X.frame, .bool X.write] 31)) 31 #[.int .i64 0, .int .i64 0, .int .i64 0, .bool false] (g := w.heap.size + 1) (by simp)
  have r3 := (Blk.new w 31 #[.int .i64 X.env, .int .i64 X.page, .int .i64 X.frame, .bool X.write]).alloc (Obj.cells #[.int .i64 0, .int .i64 0, .int .i64 0, .bool false] 31)
  have hlt := ht.own_lt
  have hgw : g < w.heap.size := ht.1.lt
  go_enter Try.func6, Try.ntmps6
  go_wp2_with fail
  refine (hr.out _).mono ?_
  rintro e w2 ⟨rfl, hb⟩
  replace hB := bstep hB (Nat.le_refl _) hb
  replace r4 := r4.keep hb
  replace r3 := r3.keep hb
  have hz2 : w.heap.size + 1 < w2.heap.size := r4.lt
  have hB7 := hB.alloc hB.size (Obj.cells #[.int .i64 0, .int .i64 0, .int .i64 0, .bool false] 31)
  replace r4 := r4.alloc (Obj.cells #[.int .i64 0, .int .i64 0, .int .i64 0, .bool false] 31)
  replace r3 := r3.alloc (Obj.cells #[.int .i64 0, .int .i64 0, .int .i64 0, .bool false] 31)
  have r7 := Blk.new w2 31 #[.int .i64 0, .int .i64 0, .int .i64 0, .bool false]
  have x0 := r3.cell 0 (.int .i64 X.env) rfl
  have x1 := r3.cell 1 (.int .i64 X.page) rfl
  have HP := Lib.hid (fun W hW => place_any g A c L h m X.env X.page W hW (by omega))
  clear hb hr
  go_wp2_with fail
  refine (HP.out _ (ht.keep hB7)).mono ?_
  rintro e w3 ⟨rfl, hb⟩
  replace hB7 := bstep hB7 (Nat.le_refl _) hb
  replace r4 := r4.keep hb
  replace r3 := r3.keep hb
  replace r7 := r7.keep hb
  have t3 := ht.keep hB7
  clear hb x0 x1 ht hB
  generalize w2.heap.size = b7 at *
  have hb7 : b7 < w3.heap.size := r7.lt
  go_upto_if 25 with (fail)
  go_cut [8, 9] (fun s8 s9 wx => ∃ (b : Bool) (y : En), s8 = .bool b ∧ Tb wx g A c (goneL L X) h m ∧ Tw w wx g (blk A) ∧ Blk wx w.heap.size 31 #[.int .i64 X.env, .int .i64 X.page, .int .i64 X.frame, .bool X.write] ∧ Blk wx (w.heap.size + 1) 31 #[.int .i64 0, .int .i64 0, .int .i64 0, .bool false] ∧ Blk wx b7 31 #[.int .i64 y.env, .int .i64 y.page, .int .i64 y.frame, .bool y.write])
  case first =>
    have HL3 := Lib.hid hlt
    have hA1 : ∀ q, w.heap.size ≤ q → some q ≠ blk A := fun q hq e => by have := HL3.out q e.symm; omega
    have HA1 := Lib.hid hA1
    clear hA1 hlt
    have rest := fun (i : Nat) (hi : i < L.length) (W : World) (hR : RetRm g A c (L.eraseIdx i) h m L[i] w3 (.returned (.agg #[.int .i64 L[i].env, .int .i64 L[i].page, .int .i64 L[i].frame, .bool L[i].write])) W) => (show Tb (put4 W b7 L[i]) g A c (L.eraseIdx i) h m ∧ Tw w (put4 W b7 L[i]) g (blk A) ∧ Blk (put4 W b7 L[i]) w.heap.size 31 #[.int .i64 X.env, .int .i64 X.page, .int .i64 X.frame, .bool X.write] ∧ Blk (put4 W b7 L[i]) (w.heap.size + 1) 31 #[.int .i64 0, .int .i64 0, .int .i64 0, .bool false] ∧ Blk (put4 W b7 L[i]) b7 31 #[.int .i64 L[i].env, .int .i64 L[i].page, .int .i64 L[i].frame, .bool L[i].write] from by
      obtain ⟨_, ht, hw⟩ := hR
      refine ⟨ht.only (put4_only _ _ _) (by omega) (Ne.symm (HA1.out b7 (by omega))), ((Tw.of_below hB7).trans hw).only (put4_only _ _ _) (by omega), ?_, ?_, ?_⟩
      · exact (hw.blk r3 (by omega) (HA1.out _ (by omega))).grown (put4_only _ _ _) (by simp; omega)
      · exact (hw.blk r4 (by omega) (HA1.out _ (by omega))).grown (put4_only _ _ _) (by simp; omega)
      · exact put4_blk _ (hw.blk r7 (by omega) (HA1.out _ (by omega))))
    have HR := Lib.hid rest
    have rest2 := fun (i : Nat) (W : World) (hw : Tw w3 W g (blk A)) => (hw.blk r7 (by omega) (HA1.out _ (by omega)))
    have HR2 := Lib.hid rest2
    clear rest rest2
    have c0 := t3.1.cell 0 (.slice A L.length c) rfl
    have H3 := Lib.hid (And.intro t3 (And.intro r3 (And.intro r4 r7)))
    clear t3 r3 r4 r7
    cases hf : fi L X.env X.page with
    | none =>
      have hp : plc L X.env X.page = -1 := by unfold plc; rw [hf]
      rw [hp]
      by_cases h16 : 16 ≤ L.length
      · have HG : Hid (goneL L X = L.eraseIdx 0) := by unfold Hid goneL; rw [hf]; simp only; rw [if_pos h16]
        have hi : 0 < L.length := by omega
        have h16' : (16 : Int) ≤ (L.length : Int) := by omega
        go_wp2_with fail
        refine (rm_any g A c L h m 0 _ H3.out.1 (by omega) hi).mono ?_
        intro e W hrm
        have hrm2 := hrm
        obtain ⟨rfl, _, hw⟩ := hrm2
        have HQ := Lib.hid (HR.out 0 hi W hrm)
        have r7 := HR2.out 0 W hw
        generalize L[0] = x at *
        have v0 := r7.cell 0 (.int .i64 0) rfl
        have v1 := r7.cell 1 (.int .i64 0) rfl
        have v2 := r7.cell 2 (.int .i64 0) rfl
        have v3 := r7.cell 3 (.bool false) rfl
        have g0 := r7.frozen 0
        have g1 := r7.frozen 1
        have g2 := r7.frozen 2
        have g3 := r7.frozen 3
        clear r7 hw hrm c0
        go_wp2_with fail
        go_meet
        rw [HG.out]
        exact ⟨true, x, rfl, HQ.out⟩
      · have HG : Hid (goneL L X = L) := by unfold Hid goneL; rw [hf]; simp only; rw [if_neg h16]
        have h16' : ¬ (16 : Int) ≤ (L.length : Int) := by omega
        go_wp2_with fail
        go_meet
        rw [HG.out]
        exact ⟨false, zeroE, rfl, H3.out.1, Tw.of_below hB7, H3.out.2.1, H3.out.2.2.1, H3.out.2.2.2⟩
    | some i =>
      have hp : plc L X.env X.page = i := by unfold plc; rw [hf]
      rw [hp]
      obtain ⟨hi, hxx⟩ := fi_some hf
      clear hxx
      have HG : Hid (goneL L X = L.eraseIdx i) := by unfold Hid goneL; rw [hf]
      clear hf
      have hi0 : (0 : Int) ≤ (i : Int) := by omega
      go_wp2_with fail
      refine (rm_any g A c L h m i _ H3.out.1 (by omega) hi).mono ?_
      intro e W hrm
      have hrm2 := hrm
      obtain ⟨rfl, _, hw⟩ := hrm2
      have HQ := Lib.hid (HR.out i hi W hrm)
      have r7 := HR2.out i W hw
      generalize L[i] = x at *
      have v0 := r7.cell 0 (.int .i64 0) rfl
      have v1 := r7.cell 1 (.int .i64 0) rfl
      have v2 := r7.cell 2 (.int .i64 0) rfl
      have v3 := r7.cell 3 (.bool false) rfl
      have g0 := r7.frozen 0
      have g1 := r7.frozen 1
      have g2 := r7.frozen 2
      have g3 := r7.frozen 3
      clear r7 hw hrm c0
      go_wp2_with fail
      go_meet
      rw [HG.out]
      exact ⟨true, x, rfl, HQ.out⟩
  case rest =>
    clear t3 r3 r4 r7 HP hb7 hB7
    obtain ⟨b, y, rfl, ht, hw, r3, r4, r7⟩ := hcut
    have hl2 := gone_len L X
    have HLD : Hid (ld L X = goneL L X ++ [X]) := rfl
    generalize ld L X = L2 at *
    generalize goneL L X = L1 at *
    have hl1 : L1.length ≤ 100 := by omega
    clear hl2 hl
    have HL3 := Lib.hid hlt
    have HA1 : Hid (∀ q, w.heap.size ≤ q → some q ≠ blk A) := fun q hq e => by have := HL3.out q e.symm; omega
    clear hlt
    have hb3 : w.heap.size < wc.heap.size := r3.lt
    have hgc : g < wc.heap.size := ht.1.lt
    have hb7 : b7 < wc.heap.size := r7.lt
    have c0 := ht.1.cell 0 (.slice A L1.length c) rfl
    have x0 := r3.cell 0 (.int .i64 X.env) rfl
    have x1 := r3.cell 1 (.int .i64 X.page) rfl
    have x2 := r3.cell 2 (.int .i64 X.frame) rfl
    have x3 := r3.cell 3 (.bool X.write) rfl
    have hbn := below1 wc.drew (Obj.cells #[.int .i64 X.env, .int .i64 X.page, .int .i64 X.frame, .bool X.write] 31)
    have ta := Tb.keep (w := wc.drew) ht hbn
    have c0a := ta.1.cell 0 (.slice A L1.length c) rfl
    have HTA := Lib.hid ta
    have HBN := Lib.hid hbn
    have H7 := Lib.hid (Blk.keep (w := wc.drew) r7 hbn)
    have H4 := Lib.hid (Blk.keep (w := wc.drew) r4 hbn)
    have HWC := Lib.hid hw
    clear hbn ta r7 r4 r3 hw ht
    go_wp2_with fail
    go_region_law (refine step_append_sl _ rfl (.tmp 41) (.tmp 43) rfl elE eE_ok (base := g + 1) (xs := L1) HTA.out.2 (n := L1.length) rfl rfl (m := 1) rfl (ys := [X]) rfl (Sl.new' eE_ok wc.drew X _ rfl _ rfl) (by simp only [maxLen]; omega) (by omega) (by simp [World.drew]; omega) _ rfl (L1.length + 1) rfl ?_; intro A5 c5 w5 own5 hg5 at5; (have b5 := HTA.out.1.grown hg5 (fun e => by have := HL3.out g e.symm; omega)); (have f5 := b5.frozen 0); (have z5 := b5.cell 0 (.slice A L1.length c) rfl))
    all_goals
      have HT : Hid (Tb (w5.setCell ⟨g, 0, none⟩ (.slice A5 (L1.length + 1) c5)) g A5 c5 (L1 ++ [X]) h m) := by
        have := HTA.out.slot b5 own5
        rw [List.length_append] at this
        exact this
      have HTW : Hid (Tw w (w5.setCell ⟨g, 0, none⟩ (.slice A5 (L1.length + 1) c5)) g (blk A)) := ((HWC.out.trans (Tw.of_below (Below.drew (Below.refl _ _)))).trans (Tw.of_below HBN.out)).trans (Tw.grown hg5) |>.set_ 0 _
      have r7 := (H7.out.grown hg5 (HA1.out b7 (by omega))).far (p := ⟨g, 0, none⟩) (by simp; omega) (.slice A5 (L1.length + 1) c5)
      have r4 := (H4.out.grown hg5 (HA1.out _ (by omega))).far (p := ⟨g, 0, none⟩) (by simp; omega) (.slice A5 (L1.length + 1) c5)
      have HA5 : Hid (blk A5 ≠ some (w.heap.size + 1)) := by
        rcases at5 with e | e
        · show blk A5 ≠ _
          rw [e]; exact Ne.symm (HA1.out _ (by omega))
        · show blk A5 ≠ _
          rw [e]; intro e2; injection e2 with e2; simp [World.drew] at e2; omega
      have HR := Lib.hid r4
      have v0 := r4.cell 0 (.int .i64 0) rfl
      have v1 := r4.cell 1 (.int .i64 0) rfl
      have v2 := r4.cell 2 (.int .i64 0) rfl
      have v3 := r4.cell 3 (.bool false) rfl
      have g0 := r4.frozen 0
      have g1 := r4.frozen 1
      have g2 := r4.frozen 2
      have g3 := r4.frozen 3
      have y0 := r7.cell 0 (.int .i64 y.env) rfl
      have y1 := r7.cell 1 (.int .i64 y.page) rfl
      have y2 := r7.cell 2 (.int .i64 y.frame) rfl
      have y3 := r7.cell 3 (.bool y.write) rfl
      clear r4 r7 c0 c0a x0 x1 x2 x3 own5 hg5 at5 b5 f5 z5 HTA HBN HWC H7 H4
      generalize w5.setCell ⟨g, 0, none⟩ (.slice A5 (L1.length + 1) c5) = w6 at *
      go_wp2_with fail
      obtain ⟨d0, d1, d2, d3⟩ : _ ∧ _ ∧ _ ∧ _ := ⟨(put4_blk y HR.out).cell 0 (.int .i64 y.env) rfl, (put4_blk y HR.out).cell 1 (.int .i64 y.page) rfl, (put4_blk y HR.out).cell 2 (.int .i64 y.frame) rfl, (put4_blk y HR.out).cell 3 (.bool y.write) rfl⟩
      change bodyPost _ _ _ _ _ (put4 w6 (w.heap.size + 1) y)
      exact bodyPost_ret (v := .tuple #[.agg #[.int .i64 y.env, .int .i64 y.page, .int .i64 y.frame, .bool y.write], .bool b, .int .i64 0]) (by simp [results, Try.results6, go_sem, d0, d1, d2, d3]) rfl ⟨y, b, A5, c5, rfl, by rw [HLD.out]; exact HT.out.only (put4_only _ _ _) (by omega) HA5.out, (HTW.out.only (put4_only _ _ _) (by omega)).below (fun q hq => by have := HL3.out q hq; omega) (by omega)⟩
end Go.Proofs.Ytfaddnedlloaiaa
