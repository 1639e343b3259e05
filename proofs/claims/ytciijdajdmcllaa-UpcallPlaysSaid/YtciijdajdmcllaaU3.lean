/- Walk: the document's Take of something. -/
import Derived.Test.YtciijdajdmcllaaU2
namespace Go.Proofs.Ytciijdajdmcllaa
open Go.RowKit Go.Lib

set_option maxRecDepth 100000 in
set_option maxHeartbeats 4000000 in
theorem rtake_some (A : Option Addr) (c : Nat) (R : List RwS) (i : Nat) (w : World) (hQ : Qs w A c R) (hi : i < 8) (hiR : i < R.length) (A2 : Option Addr) (c2 : Nat) (x : Up) (L : List Up) (l2 : Int) (hRi : R[i] = ⟨A2, c2, x :: L, l2⟩) :
    Calls Try.prog 10 #[.slice A 8 c, .int .i64 i] w (RetQT A R ((R.map ctOf).set i ⟨L, l2⟩) x 0 w) := by
  have hmem : R[i] ∈ R := List.getElem_mem hiR
  have hsl := hQ.sl _ hmem
  have hcap := hQ.cap _ hmem
  rw [hRi] at hsl hcap
  simp only [List.length_cons] at hcap
  obtain ⟨b0, off, rfl, hbl⟩ := sl_blk hsl (by simp)
  have hB := below1 w (Obj.cells #[.int .i64 0, .int .i64 0, .int .u64 0] 33)
  obtain ⟨q, rfl, c0, c1⟩ := (hQ.keep hB).at_ hiR
  rw [hRi] at c0 c1
  simp only [List.length_cons] at c0 c1
  have HQ := Lib.hid hQ
  have i0 : (0 : Int) ≤ (i : Int) := by omega
  have i1 : (i : Int) < 8 := by omega
  have i2 : ¬ (7 : Int) < (i : Int) := by omega
  have hB2 : Below w.heap.size w ((w.alloc (Obj.cells #[.int .i64 0, .int .i64 0, .int .u64 0] 33)).alloc (Obj.cells #[.slice (some ⟨b0, off, none⟩) (L.length + 1) c2, .int .i64 l2] 49)) := hB.alloc (by simp) _
  obtain ⟨b', off', e, y0, y1, y2⟩ := Sl.up_at (hsl.keep hB2) (i := 0) (by simp)
  injection e with e
  injection e with e1 e2
  subst e1 e2
  simp only [Nat.zero_mul, List.getElem_cons_zero, Nat.add_zero, Nat.add_assoc, Nat.reduceAdd] at y0 y1 y2
  have hlq : ((x :: L).length : Int) = (L.length : Int) + 1 := by simp
  have hln : ((L.length : Int) + 1 == 0) = false := by simp; omega
  have HS := Lib.hid hsl
  have HI := Lib.hid hi
  have HM := Lib.hid hmem
  have HRI := Lib.hid hRi
  clear hQ hsl hmem hi hRi
  by_cases hc1 : c2 = 1
  · subst hc1
    have hL0 : L = [] := List.eq_nil_of_length_eq_zero (by omega)
    have HLN := Lib.hid hL0
    clear hL0
    have hB3 : Below w.heap.size w (((w.alloc (Obj.cells #[.int .i64 0, .int .i64 0, .int .u64 0] 33)).alloc (Obj.cells #[.slice (some ⟨b0, off, none⟩) 0 0, .int .i64 l2] 49)).alloc (Obj.cells #[.int .i64 x.kind, .int .i64 x.a, .int .u64 x.b] 33)) := (hB.alloc (by simp) _).alloc (by simp; omega) _
    have g5 := ((Blk.new w 33 #[.int .i64 0, .int .i64 0, .int .u64 0]).alloc (Obj.cells #[.slice (some ⟨b0, off, none⟩) 0 0, .int .i64 l2] 49)).alloc (Obj.cells #[.int .i64 x.kind, .int .i64 x.a, .int .u64 x.b] 33)
    have g7 := (Blk.new' (w.alloc (Obj.cells #[.int .i64 0, .int .i64 0, .int .u64 0] 33)) 49 #[.slice (some ⟨b0, off, none⟩) 0 0, .int .i64 l2] (g := w.heap.size + 1) (by simp)).alloc (Obj.cells #[.int .i64 x.kind, .int .i64 x.a, .int .u64 x.b] 33)
    have g8 := Blk.new' ((w.alloc (Obj.cells #[.int .i64 0, .int .i64 0, .int .u64 0] 33)).alloc (Obj.cells #[.slice (some ⟨b0, off, none⟩) 0 0, .int .i64 l2] 49)) 33 #[.int .i64 x.kind, .int .i64 x.a, .int .u64 x.b] (g := w.heap.size + 1 + 1) (by simp)
    go_enter Try.func10, Try.ntmps10
    go_wp2_with fail
    clear y0 y1 y2 c0 c1 hB hB2
    generalize ((w.alloc (Obj.cells #[.int .i64 0, .int .i64 0, .int .u64 0] 33)).alloc (Obj.cells #[.slice (some ⟨b0, off, none⟩) 0 0, .int .i64 l2] 49)).alloc (Obj.cells #[.int .i64 x.kind, .int .i64 x.a, .int .u64 x.b] 33) = W3 at *
    have HW : Hid (Calls Try.prog 20 #[.slice (some ⟨q, 0, none⟩) 8 c, .int .i64 i, .agg #[.slice (some ⟨b0, off, none⟩) 0 0, .int .i64 l2]] W3.drew (RetQ (some ⟨q, 0, none⟩) R (R.set i ⟨(some ⟨b0, off, none⟩), 0, [], l2⟩) W3.drew)) := with_any _ c R i ⟨(some ⟨b0, off, none⟩), 0, [], l2⟩ W3.drew (HQ.out.keep hB3).drew HI.out (Sl.nil _ _) (Nat.le_refl _)
    have r0 := g7.cell 0 (.slice (some ⟨b0, off, none⟩) 0 0) rfl
    have r1 := g7.cell 1 (.int .i64 l2) rfl
    have x0 := g8.cell 0 (.int .i64 x.kind) rfl
    have x1 := g8.cell 1 (.int .i64 x.a) rfl
    have x2 := g8.cell 2 (.int .u64 x.b) rfl
    have HG5 := Lib.hid g5
    have HB3 := Lib.hid hB3
    clear g5 g7 g8 hB3
    go_region_with ((go_at_call 20; refine HW.out.mono ?_; rintro e w5 ⟨O, d, rfl, hq5, hO5, hb5⟩; (have G5 := Blk.keep (w := W3.drew) HG5.out hb5); (have X0 := kcell (W := W3.drew) hb5 x0); (have X1 := kcell (W := W3.drew) hb5 x1); (have X2 := kcell (W := W3.drew) hb5 x2); (have v0 := G5.cell 0 (.int .i64 0) rfl); (have v1 := G5.cell 1 (.int .i64 0) rfl); (have v2 := G5.cell 2 (.int .u64 0) rfl); (have f0 := G5.frozen 0); (have f1 := G5.frozen 1); (have f2 := G5.frozen 2)))
    all_goals
      have hB5 := bstep HB3.out.drew (Nat.le_refl _) hb5
      have hsz : w.heap.size < w5.heap.size := G5.lt
      have hzw : w.heap.size ≤ W3.drew.heap.size := HB3.out.size
      go_wp2_with fail
      obtain ⟨d0, d1, d2⟩ : _ ∧ _ ∧ _ := ⟨(put3_blk x G5).cell 0 (.int .i64 x.kind) rfl, (put3_blk x G5).cell 1 (.int .i64 x.a) rfl, (put3_blk x G5).cell 2 (.int .u64 x.b) rfl⟩
      change bodyPost _ _ _ _ _ (put3 w5 w.heap.size 0 x)
      have hkk := put3_only w5 w.heap.size 0 x
      refine bodyPost_ret (v := .tuple #[.slice O 8 d, .agg #[.int .i64 x.kind, .int .i64 x.a, .int .u64 x.b], .int .i64 0]) (by simp [results, Try.results10, go_sem, d0, d1, d2]) rfl ⟨O, d, R.set i ⟨(some ⟨b0, off, none⟩), 0, [], l2⟩, rfl, ?_, ?_, ?_, below_only hB5 hkk (Nat.le_refl _)⟩
      · refine hq5.kept (F := fun b => b < w5.heap.size ∧ b ≠ w.heap.size) (Kp.grown hkk (fun b hb => ⟨hb.1, by simpa using hb.2⟩)) (fun b hb => ⟨hq5.lt b hb, ?_⟩)
        rcases hb with hb | ⟨r, hr, hrl, hb⟩
        · have h1 := (hO5 b hb).1; have h2 := HG5.out.lt; have h3 : W3.drew.heap.size = W3.heap.size := rfl; omega
        · rcases List.mem_or_eq_of_mem_set hr with hr | rfl
          · have := HQ.out.lt b (.inr ⟨r, hr, hrl, hb⟩); omega
          · simp at hrl
      · rw [ct_set]; rw [HLN.out]; rfl
      · intro b hb
        rcases hb with hb | ⟨r, hr, hrl, hb⟩
        · right; have h1 := hO5 b hb; exact ⟨by omega, Nat.lt_of_lt_of_le h1.2 hkk.size⟩
        · rcases List.mem_or_eq_of_mem_set hr with hr | rfl
          · exact .inl (.inr ⟨r, hr, hrl, hb⟩)
          · simp at hrl
  · have HSN : Hid (Sl eP 3 w (some ⟨b0, off + 3, none⟩) L) := by
      by_cases hL : L = []
      · rw [hL]; exact Sl.nil _ _
      · have := HS.out.drop (k := 1) (by have := List.length_pos_iff.2 hL; simp; omega)
        show Sl eP 3 w _ _
        simpa using this
    have HCN : Hid (L.length ≤ c2 - 1) := by unfold Hid; omega
    have hB3 : Below w.heap.size w (((w.alloc (Obj.cells #[.int .i64 0, .int .i64 0, .int .u64 0] 33)).alloc (Obj.cells #[.slice (some ⟨b0, off + 3, none⟩) L.length (c2 - 1), .int .i64 l2] 49)).alloc (Obj.cells #[.int .i64 x.kind, .int .i64 x.a, .int .u64 x.b] 33)) := (hB.alloc (by simp) _).alloc (by simp; omega) _
    have g5 := ((Blk.new w 33 #[.int .i64 0, .int .i64 0, .int .u64 0]).alloc (Obj.cells #[.slice (some ⟨b0, off + 3, none⟩) L.length (c2 - 1), .int .i64 l2] 49)).alloc (Obj.cells #[.int .i64 x.kind, .int .i64 x.a, .int .u64 x.b] 33)
    have g7 := (Blk.new' (w.alloc (Obj.cells #[.int .i64 0, .int .i64 0, .int .u64 0] 33)) 49 #[.slice (some ⟨b0, off + 3, none⟩) L.length (c2 - 1), .int .i64 l2] (g := w.heap.size + 1) (by simp)).alloc (Obj.cells #[.int .i64 x.kind, .int .i64 x.a, .int .u64 x.b] 33)
    have g8 := Blk.new' ((w.alloc (Obj.cells #[.int .i64 0, .int .i64 0, .int .u64 0] 33)).alloc (Obj.cells #[.slice (some ⟨b0, off + 3, none⟩) L.length (c2 - 1), .int .i64 l2] 49)) 33 #[.int .i64 x.kind, .int .i64 x.a, .int .u64 x.b] (g := w.heap.size + 1 + 1) (by simp)
    go_enter Try.func10, Try.ntmps10
    go_wp2_with fail
    clear y0 y1 y2 c0 c1 hB hB2
    generalize ((w.alloc (Obj.cells #[.int .i64 0, .int .i64 0, .int .u64 0] 33)).alloc (Obj.cells #[.slice (some ⟨b0, off + 3, none⟩) L.length (c2 - 1), .int .i64 l2] 49)).alloc (Obj.cells #[.int .i64 x.kind, .int .i64 x.a, .int .u64 x.b] 33) = W3 at *
    have HW : Hid (Calls Try.prog 20 #[.slice (some ⟨q, 0, none⟩) 8 c, .int .i64 i, .agg #[.slice (some ⟨b0, off + 3, none⟩) L.length (c2 - 1), .int .i64 l2]] W3.drew (RetQ (some ⟨q, 0, none⟩) R (R.set i ⟨(some ⟨b0, off + 3, none⟩), (c2 - 1), L, l2⟩) W3.drew)) := with_any _ c R i ⟨(some ⟨b0, off + 3, none⟩), (c2 - 1), L, l2⟩ W3.drew (HQ.out.keep hB3).drew HI.out (Sl.drew (HSN.out.keep hB3)) HCN.out
    have r0 := g7.cell 0 (.slice (some ⟨b0, off + 3, none⟩) L.length (c2 - 1)) rfl
    have r1 := g7.cell 1 (.int .i64 l2) rfl
    have x0 := g8.cell 0 (.int .i64 x.kind) rfl
    have x1 := g8.cell 1 (.int .i64 x.a) rfl
    have x2 := g8.cell 2 (.int .u64 x.b) rfl
    have HG5 := Lib.hid g5
    have HB3 := Lib.hid hB3
    clear g5 g7 g8 hB3
    go_region_with ((go_at_call 20; refine HW.out.mono ?_; rintro e w5 ⟨O, d, rfl, hq5, hO5, hb5⟩; (have G5 := Blk.keep (w := W3.drew) HG5.out hb5); (have X0 := kcell (W := W3.drew) hb5 x0); (have X1 := kcell (W := W3.drew) hb5 x1); (have X2 := kcell (W := W3.drew) hb5 x2); (have v0 := G5.cell 0 (.int .i64 0) rfl); (have v1 := G5.cell 1 (.int .i64 0) rfl); (have v2 := G5.cell 2 (.int .u64 0) rfl); (have f0 := G5.frozen 0); (have f1 := G5.frozen 1); (have f2 := G5.frozen 2)))
    all_goals
      have hB5 := bstep HB3.out.drew (Nat.le_refl _) hb5
      have hsz : w.heap.size < w5.heap.size := G5.lt
      have hzw : w.heap.size ≤ W3.drew.heap.size := HB3.out.size
      go_wp2_with fail
      obtain ⟨d0, d1, d2⟩ : _ ∧ _ ∧ _ := ⟨(put3_blk x G5).cell 0 (.int .i64 x.kind) rfl, (put3_blk x G5).cell 1 (.int .i64 x.a) rfl, (put3_blk x G5).cell 2 (.int .u64 x.b) rfl⟩
      change bodyPost _ _ _ _ _ (put3 w5 w.heap.size 0 x)
      have hkk := put3_only w5 w.heap.size 0 x
      refine bodyPost_ret (v := .tuple #[.slice O 8 d, .agg #[.int .i64 x.kind, .int .i64 x.a, .int .u64 x.b], .int .i64 0]) (by simp [results, Try.results10, go_sem, d0, d1, d2]) rfl ⟨O, d, R.set i ⟨(some ⟨b0, off + 3, none⟩), (c2 - 1), L, l2⟩, rfl, ?_, ?_, ?_, below_only hB5 hkk (Nat.le_refl _)⟩
      · refine hq5.kept (F := fun b => b < w5.heap.size ∧ b ≠ w.heap.size) (Kp.grown hkk (fun b hb => ⟨hb.1, by simpa using hb.2⟩)) (fun b hb => ⟨hq5.lt b hb, ?_⟩)
        rcases hb with hb | ⟨r, hr, hrl, hb⟩
        · have h1 := (hO5 b hb).1; have h2 := HG5.out.lt; have h3 : W3.drew.heap.size = W3.heap.size := rfl; omega
        · rcases List.mem_or_eq_of_mem_set hr with hr | rfl
          · have := HQ.out.lt b (.inr ⟨r, hr, hrl, hb⟩); omega
          · injection hb with hb; have hb' : b0 = b := hb; omega
      · rw [ct_set]; rfl
      · intro b hb
        rcases hb with hb | ⟨r, hr, hrl, hb⟩
        · right; have h1 := hO5 b hb; exact ⟨by omega, Nat.lt_of_lt_of_le h1.2 hkk.size⟩
        · rcases List.mem_or_eq_of_mem_set hr with hr | rfl
          · exact .inl (.inr ⟨r, hr, hrl, hb⟩)
          · left; right; exact ⟨_, HM.out, by rw [HRI.out]; simp, by rw [HRI.out]; exact hb⟩
end Go.Proofs.Ytciijdajdmcllaa
