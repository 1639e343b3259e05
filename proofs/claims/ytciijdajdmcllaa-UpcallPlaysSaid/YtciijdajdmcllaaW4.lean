/- Walks: Take, Of, the chapter's example. -/
import Derived.Test.YtciijdajdmcllaaW3
namespace Go.Proofs.Ytciijdajdmcllaa
open Go.RowKit Go.Lib

theorem put3_only (w : World) (b o : Nat) (x : Up) : w.grownBy (put3 w b o x) (some b) := only_set (only_set (only_set (only_refl w b) _ _) _ _) _ _
theorem put3_blk {w : World} {b : Nat} (x : Up) {v0 v1 v2 : Value} {t : TypeId} (h : Blk w b t #[v0, v1, v2]) : Blk (put3 w b 0 x) b t #[.int .i64 x.kind, .int .i64 x.a, .int .u64 x.b] := ((h.set_ 0 _).set_ 1 _).set_ 2 _
/-- a store into a block that is no row's -/
theorem Rws.far {w w' : World} {g b : Nat} {R : List RwS} (h : Rws w g R) (hg : w.grownBy w' (some b)) (h1 : g ≠ b) (h2 : ∀ i, (hi : i < R.length) → blk R[i].A ≠ some b) : Rws w' g R :=
  ⟨h.len, h.at_.grown hg (by simpa using h1), fun i hi => (h.own i hi).kept hg (.inr (h2 i hi)), h.dis⟩
def RetTk (g : Nat) (C : List Ct) (x : Up) (r : Int) (w : World) (e : Ending) (w' : World) : Prop := e = .returned (.tuple #[.agg #[.int .i64 x.kind, .int .i64 x.a, .int .u64 x.b], .int .i64 r]) ∧ Rs w' g C ∧ Below g w w'
def zeroU : Up := ⟨0, 0, 0⟩

set_option maxHeartbeats 1000000 in
theorem take_env (g : Nat) (i : Int) (hi : i < 0 ∨ 7 < i) (w : World) : Calls Try.prog 8 #[.pointer (some ⟨g, 0, none⟩), .int .i64 i] w fun e w' => e = .returned (.tuple #[.agg #[.int .i64 0, .int .i64 0, .int .u64 0], .int .i64 1]) ∧ Below w.heap.size w w' := by
  have H := Lib.hid (fun W => of_no g i hi W)
  clear hi
  go_enter Try.func8, Try.ntmps8
  go_wp2_with fail
  refine (H.out _).mono ?_
  rintro e w2 ⟨rfl, rfl⟩
  go_wp2_with fail
  exact bodyPost_ret (v := .tuple #[.agg #[.int .i64 0, .int .i64 0, .int .u64 0], .int .i64 1]) (by simp [results, Try.results8, go_sem]) rfl ⟨rfl, below1 _ _⟩
set_option maxHeartbeats 1000000 in
theorem take_nil (g i : Nat) (hi : i < 8) (R : List RwS) (w : World) (hR : Rws w g R) (hiR : i < R.length) (hL : R[i].L = []) : Calls Try.prog 8 #[.pointer (some ⟨g, 0, none⟩), .int .i64 i] w fun e w' => e = .returned (.tuple #[.agg #[.int .i64 0, .int .i64 0, .int .u64 0], .int .i64 6]) ∧ Below w.heap.size w w' := by
  have H := Lib.hid (fun W => of_yes g i hi W)
  have c0 := ((hR.keep (below1 w (Obj.cells #[.int .i64 0, .int .i64 0, .int .u64 0] 38))).cells hiR).1
  rw [hL] at c0
  simp only [List.length_nil] at c0
  generalize R[i].A = A at *
  generalize R[i].c = c at *
  clear hi hL
  go_enter Try.func8, Try.ntmps8
  go_wp2_with fail
  refine (H.out _).mono ?_
  rintro e w2 ⟨rfl, rfl⟩
  go_wp2_with fail
  exact bodyPost_ret (v := .tuple #[.agg #[.int .i64 0, .int .i64 0, .int .u64 0], .int .i64 6]) (by simp [results, Try.results8, go_sem]) rfl ⟨rfl, below1 _ _⟩

set_option maxRecDepth 100000 in
set_option maxHeartbeats 4000000 in
theorem take_some (g i : Nat) (hi : i < 8) (R : List RwS) (w : World) (hR : Rws w g R) (hiR : i < R.length) (A : Option Addr) (c : Nat) (x : Up) (L : List Up) (lost : Int) (hRi : R[i] = ⟨A, c, x :: L, lost⟩) (hl8 : L.length ≤ 8) :
    Calls Try.prog 8 #[.pointer (some ⟨g, 0, none⟩), .int .i64 i] w (RetTk g ((R.map ctOf).set i ⟨L, lost⟩) x 0 w) := by
  have H := Lib.hid (fun W => of_yes g i hi W)
  have hgw : g < w.heap.size := hR.at_.lt
  have hb1 := below1 w (Obj.cells #[.int .i64 0, .int .i64 0, .int .u64 0] 38)
  have hR2 := hR.keep hb1
  have r1 := Blk.new w 38 #[.int .i64 0, .int .i64 0, .int .u64 0]
  have hbx := below1 (w.alloc (Obj.cells #[.int .i64 0, .int .i64 0, .int .u64 0] 38)) (Obj.cells #[.int .i64 x.kind, .int .i64 x.a, .int .u64 x.b] 38)
  have hB3 : Below w.heap.size w _ := bstep hb1 (Nat.le_refl _) hbx
  have hR3 := hR2.keep hbx
  have c0 := (hR2.cells hiR).1
  have c3 := (hR3.cells hiR).1
  have hown := hR2.own i hiR
  have hown3 := hR3.own i hiR
  have HOB : Hid (∀ q, blk A = some q → g < q ∧ q < w.heap.size) := fun q hq => by
    have := hR.lt hiR q
    rw [hRi] at this
    exact this hq
  rw [hRi] at c0 c3 hown hown3
  simp only at c0 c3 hown hown3
  rcases hown.shape with ⟨_, h, _⟩ | ⟨q, rfl⟩
  · simp at h
  obtain ⟨hq1, hq2⟩ := HOB.out q rfl
  obtain ⟨y0, y1, y2⟩ := own_up hown (i := 0) (by simp)
  simp only [Nat.zero_mul, List.getElem_cons_zero, Nat.zero_add] at y0 y1 y2
  have HD : Hid (∀ W, Own eP 3 W (g + 1) 38 (some ⟨q, 0, none⟩) c (x :: L) → Calls Try.prog 19 #[.slice (some ⟨q, 0, none⟩) (x :: L).length c, .int .i64 0, .int .i64 1] W fun e w' => e = .returned (.slice (some ⟨q, 0, none⟩) L.length c) ∧ Own eP 3 w' (g + 1) 38 (some ⟨q, 0, none⟩) c L ∧ W.grownBy w' (some q)) := fun W hW => del_any q c 0 L.length (g + 1) (x :: L) W hW (by simp; omega) (by simp; omega)
  have HOW := Lib.hid hown3
  have x1 := Blk.new' (w.alloc (Obj.cells #[.int .i64 0, .int .i64 0, .int .u64 0] 38)) 38 #[.int .i64 x.kind, .int .i64 x.a, .int .u64 x.b] (g := w.heap.size + 1) (by simp)
  have r3 := r1.keep hbx
  have HR3 := Lib.hid hR3
  have hlq : ((x :: L).length : Int) = (L.length : Int) + 1 := by simp
  have hln : ((L.length : Int) + 1 == 0) = false := by simp; omega
  have HBL := Lib.hid hR.at_.lt
  have HRL : Hid (∀ j, (hj : j < R.length) → ∀ q, blk R[j].A = some q → q < w.heap.size) := fun j hj q hq => (hR.lt hj q hq).2
  clear hR hR2 hR3 hown hown3 r1 hb1 hbx hi
  go_enter Try.func8, Try.ntmps8
  go_wp2_with fail
  refine (H.out _).mono ?_
  rintro e w2 ⟨rfl, rfl⟩
  go_wp2_with fail
  refine (HD.out _ HOW.out).mono ?_
  rintro e w4 ⟨rfl, own4, hg4⟩
  have hgq : some g ≠ some q := by simp; omega
  have b4 := HR3.out.at_.grown hg4 hgq
  have r4 := r3.grown hg4 (by simp; omega)
  have x4 := x1.grown hg4 (by simp; omega)
  have f4 := b4.frozen (i * 2)
  have z4 : w4.cell? ⟨g, i * 2, none⟩ = some (.slice (some ⟨q, 0, none⟩) (x :: L).length c) := by
    rw [World.cell?_of_block (hg4.block g (HR3.out.at_.lt) hgq)]
    exact c3
  have HT : Hid (Rws (w4.setCell ⟨g, i * 2, none⟩ (.slice (some ⟨q, 0, none⟩) L.length c)) g (R.set i ⟨some ⟨q, 0, none⟩, c, L, lost⟩)) := by
    have := HR3.out.put hiR (by rw [hRi]; exact hg4) own4 (by rw [hRi]; exact .inl rfl)
    rw [hRi] at this
    exact this
  have HB4 : Hid (Below g w (w4.setCell ⟨g, i * 2, none⟩ (.slice (some ⟨q, 0, none⟩) L.length c))) := ((hB3.mono (by omega)).trans (low_of_row hg4 (fun j hj => by injection hj with hj; omega) (by have := hB3.size; omega))).trans (low_set _ _)
  have r5 := r4.far (p := ⟨g, i * 2, none⟩) (by simp; omega) (.slice (some ⟨q, 0, none⟩) L.length c)
  have x5 := x4.far (p := ⟨g, i * 2, none⟩) (by simp; omega) (.slice (some ⟨q, 0, none⟩) L.length c)
  have u0 := x5.cell 0 (.int .i64 x.kind) rfl
  have u1 := x5.cell 1 (.int .i64 x.a) rfl
  have u2 := x5.cell 2 (.int .u64 x.b) rfl
  have HQ := Lib.hid r5
  have v0 := r5.cell 0 (.int .i64 0) rfl
  have v1 := r5.cell 1 (.int .i64 0) rfl
  have v2 := r5.cell 2 (.int .u64 0) rfl
  have g0 := r5.frozen 0
  have g1 := r5.frozen 1
  have g2 := r5.frozen 2
  clear r5 x5 r4 x4 b4 own4 hg4 c3 c0 y0 y1 y2 r3 x1 HD hB3 HOW HR3
  generalize hW4 : w4.setCell ⟨g, i * 2, none⟩ (.slice (some ⟨q, 0, none⟩) L.length c) = W4 at *
  go_wp2_with fail
  obtain ⟨d0, d1, d2⟩ : _ ∧ _ ∧ _ := ⟨(put3_blk x HQ.out).cell 0 (.int .i64 x.kind) rfl, (put3_blk x HQ.out).cell 1 (.int .i64 x.a) rfl, (put3_blk x HQ.out).cell 2 (.int .u64 x.b) rfl⟩
  change bodyPost _ _ _ _ _ (put3 W4 w.heap.size 0 x)
  refine bodyPost_ret (v := .tuple #[.agg #[.int .i64 x.kind, .int .i64 x.a, .int .u64 x.b], .int .i64 0]) (by simp [results, Try.results8, go_sem, d0, d1, d2]) rfl ⟨rfl, ⟨_, HT.out.far (put3_only _ _ _ _) (by omega) (fun j hj e => ?_), by rw [ct_set]; rfl⟩, HB4.out.trans (low_of_row (put3_only _ _ _ _) (fun j hj => by injection hj with hj; omega) (by have := HT.out.at_.lt; omega))⟩
  rw [List.length_set] at hj
  rw [List.getElem_set] at e
  split at e
  · simp only [blk, Option.map_some, Option.some.injEq] at e; omega
  · have := HRL.out j hj _ e; omega
end Go.Proofs.Ytciijdajdmcllaa
