/- Walks: the document's Take. -/
import Derived.Test.YtldpplfkimdaaaaW8
import Derived.Test.YtldpplfkimdaaaaKp
import Derived.Test.YtldpplfkimdaaaaPhase2
namespace Go.Proofs.Ytldpplfkimdaaaa
open Go.RowKit Go.Conc

theorem own_ne {α : Type} {enc : α → List Value} {sz : Nat} {w : World} {base c : Nat} {e : TypeId} {A : Option Addr} {xs : List α} (h : Own enc sz w base e A c xs) {q : Nat} (hq : q < base) : blk A = none ∨ blk A ≠ some q := by
  cases h2 : blk A with
  | none => exact .inl rfl
  | some k => right; intro he; injection he with he; have := (h.lt k h2).1; omega
set_option maxHeartbeats 2000000 in
theorem rtake_none (A : Option Addr) (c room : Nat) (sh : Bool) (w : World) :
    Calls Try.prog 21 #[.agg #[.slice A 0 c, .int .i64 room, .bool sh]] w fun e w' => e = .returned (.tuple #[.agg #[.slice A 0 c, .int .i64 room, .bool sh], .agg #[.int .i64 0, .int .u64 0], .int .i64 (if sh then 25 else 6)]) ∧ Below w.heap.size w w' := by
  have key : Below w.heap.size w (((w.alloc (Obj.cells #[.slice A 0 c, .int .i64 room, .bool sh] 43)).alloc (Obj.cells #[.slice A 0 c, .int .i64 room, .bool sh] 43)).alloc (Obj.cells #[.int .i64 0, .int .u64 0] 59)) := ((below1 _ _).alloc (by simp) _).alloc (by simp; omega) _
  have b1 := (Blk.new' (w.alloc (Obj.cells #[.slice A 0 c, .int .i64 room, .bool sh] 43)) 43 #[.slice A 0 c, .int .i64 room, .bool sh] (g := w.heap.size + 1) (by simp)).alloc (Obj.cells #[.int .i64 0, .int .u64 0] 59)
  have b2 := Blk.new' ((w.alloc (Obj.cells #[.slice A 0 c, .int .i64 room, .bool sh] 43)).alloc (Obj.cells #[.slice A 0 c, .int .i64 room, .bool sh] 43)) 59 #[.int .i64 0, .int .u64 0] (g := w.heap.size + 1 + 1) (by simp)
  obtain ⟨d0, d1, d2⟩ : _ ∧ _ ∧ _ := ⟨b1.cell 0 (.slice A 0 c) rfl, b1.cell 1 (.int .i64 room) rfl, b1.cell 2 (.bool sh) rfl⟩
  obtain ⟨e0, e1⟩ : _ ∧ _ := ⟨b2.cell 0 (.int .i64 0) rfl, b2.cell 1 (.int .u64 0) rfl⟩
  cases sh
  · go_enter Try.func21, Try.ntmps21
    go_wp2_with fail
    exact bodyPost_ret (v := .tuple #[.agg #[.slice A 0 c, .int .i64 room, .bool false], .agg #[.int .i64 0, .int .u64 0], .int .i64 6]) (by simp [results, Try.results21, go_sem, d0, d1, d2, e0, e1]) rfl ⟨rfl, key⟩
  · go_enter Try.func21, Try.ntmps21
    go_wp2_with fail
    exact bodyPost_ret (v := .tuple #[.agg #[.slice A 0 c, .int .i64 room, .bool true], .agg #[.int .i64 0, .int .u64 0], .int .i64 25]) (by simp [results, Try.results21, go_sem, d0, d1, d2, e0, e1]) rfl ⟨rfl, key⟩
set_option maxRecDepth 100000 in
set_option maxHeartbeats 4000000 in
theorem rtake_some (A : Option Addr) (c : Nat) (x : Lt) (l : List Lt) (room : Nat) (sh : Bool) (w : World) (h : Sl eLt 2 w A (x :: l)) (hc : l.length + 1 ≤ c) (h64 : l.length < 64) :
    Calls Try.prog 21 #[.agg #[.slice A (l.length + 1) c, .int .i64 room, .bool sh]] w fun e w' => ∃ (A' : Option Addr) (c' : Nat), e = .returned (.tuple #[.agg #[.slice A' l.length c', .int .i64 room, .bool sh], .agg #[.int .i64 x.from_, .int .u64 x.word], .int .i64 0]) ∧ Own eLt 2 w' w.heap.size 59 A' c' l ∧ Below w.heap.size w w' := by
  obtain ⟨b, off, rfl, hcl⟩ := h.at_ (i := 0) (by simp)
  have k0 : w.cell? ⟨b, off, none⟩ = some (.int .i64 x.from_) := by simpa using hcl 0 _ (show (eLt ((x :: l)[0]))[0]? = some (.int .i64 x.from_) from rfl)
  have k1 : w.cell? ⟨b, off + 1, none⟩ = some (.int .u64 x.word) := by simpa using hcl 1 _ (show (eLt ((x :: l)[0]))[1]? = some (.int .u64 x.word) from rfl)
  clear hcl
  have hn : ((l.length : Int) + 1 == 0) = false := by simp; omega
  have hc1 : 1 ≤ c := by omega
  have hB : Below w.heap.size w (((w.alloc (Obj.cells #[.slice (some ⟨b, off, none⟩) (l.length + 1) c, .int .i64 room, .bool sh] 43)).alloc (Obj.cells #[.slice none 0 0, .int .i64 0, .bool false] 43)).alloc (Obj.cells #[.int .i64 0, .int .u64 0] 59)) := ((below1 _ _).alloc (by simp) _).alloc (by simp; omega) _
  have y0 := kcell hB k0
  have y1 := kcell hB k1
  have b0 := ((Blk.new w 43 #[.slice (some ⟨b, off, none⟩) (l.length + 1) c, .int .i64 room, .bool sh]).alloc (Obj.cells #[.slice none 0 0, .int .i64 0, .bool false] 43)).alloc (Obj.cells #[.int .i64 0, .int .u64 0] 59)
  have b1 := (Blk.new' (w.alloc (Obj.cells #[.slice (some ⟨b, off, none⟩) (l.length + 1) c, .int .i64 room, .bool sh] 43)) 43 #[.slice none 0 0, .int .i64 0, .bool false] (g := w.heap.size + 1) (by simp)).alloc (Obj.cells #[.int .i64 0, .int .u64 0] 59)
  have b2 := Blk.new' ((w.alloc (Obj.cells #[.slice (some ⟨b, off, none⟩) (l.length + 1) c, .int .i64 room, .bool sh] 43)).alloc (Obj.cells #[.slice none 0 0, .int .i64 0, .bool false] 43)) 59 #[.int .i64 0, .int .u64 0] (g := w.heap.size + 1 + 1) (by simp)
  have h1 := h.keep hB
  have hs0 : w.heap.size + 1 + 1 < (((w.alloc (Obj.cells #[.slice (some ⟨b, off, none⟩) (l.length + 1) c, .int .i64 room, .bool sh] 43)).alloc (Obj.cells #[.slice none 0 0, .int .i64 0, .bool false] 43)).alloc (Obj.cells #[.int .i64 0, .int .u64 0] 59)).heap.size := b2.lt
  have hsl : ∃ off2, (if c = 1 then off else off + 2) = off2 ∧ Sl eLt 2 w (some ⟨b, off2, none⟩) l := by
    by_cases h1 : c = 1
    · have : l = [] := List.eq_nil_of_length_eq_zero (by omega)
      exact ⟨off, by simp [h1], by rw [this]; exact Sl.nil _ _⟩
    · refine ⟨off + 2, by simp [h1], ?_⟩
      by_cases h0 : l.length = 0
      · rw [List.eq_nil_of_length_eq_zero h0]; exact Sl.nil _ _
      · have := h.drop (k := 1) (by simp; omega)
        simpa using this
  have hBx := Lib.hid hB
  have hb0 := Lib.hid b0
  have hb1 := Lib.hid b1
  have hb2 := Lib.hid b2
  have h64' := Lib.hid h64
  have hh1 := Lib.hid h1
  have hb3 := Lib.hid (Blk.new' (((w.alloc (Obj.cells #[.slice (some ⟨b, off, none⟩) (l.length + 1) c, .int .i64 room, .bool sh] 43)).alloc (Obj.cells #[.slice none 0 0, .int .i64 0, .bool false] 43)).alloc (Obj.cells #[.int .i64 0, .int .u64 0] 59)) 59 #[.int .i64 x.from_, .int .u64 x.word] (g := w.heap.size + 1 + 1 + 1) (by simp))
  clear hB b0 b1 b2 h1
  obtain ⟨off2, ho2, hs2⟩ := hsl
  have hs2' := Lib.hid (hs2.keep hBx.out)
  clear hs2
  by_cases hcc : c = 1
  · have hl0 : l.length = 0 := by omega
    have ho3 : off = off2 := by simpa [hcc] using ho2
    subst ho3
    have hl0' := Lib.hid hl0
    subst hcc
    clear hl0 ho2
    go_enter Try.func21, Try.ntmps21
    go_wp2_with (at_builtin; go_loud (refine wpList_append_fresh _ rfl _ _ rfl elemLt eLt_ok (Own.empty' _ _ (base := w.heap.size + 1 + 1 + 1 + 1) (by simp) (by omega)) rfl (m := 0) (ys := []) rfl rfl (Sl.nil _ _) (by simp [maxLen]) (by omega) (by simp) ?_); intro A1 e1 w1 own1 kb1; (have q0 := ((hb0.out.alloc (Obj.cells #[.int .i64 x.from_, .int .u64 x.word] 59)).alloc (Obj.cells #[] 59)).keep kb1); (have q1 := ((hb1.out.alloc (Obj.cells #[.int .i64 x.from_, .int .u64 x.word] 59)).alloc (Obj.cells #[] 59)).keep kb1); (have q2 := ((hb2.out.alloc (Obj.cells #[.int .i64 x.from_, .int .u64 x.word] 59)).alloc (Obj.cells #[] 59)).keep kb1); (have q3 := (hb3.out.alloc (Obj.cells #[] 59)).keep kb1); (have hB1 := bstep ((hBx.out.alloc hBx.out.size (Obj.cells #[.int .i64 x.from_, .int .u64 x.word] 59)).alloc (hBx.out.alloc hBx.out.size (Obj.cells #[.int .i64 x.from_, .int .u64 x.word] 59)).size (Obj.cells #[] 59)) (Nat.le_refl _) kb1); (obtain ⟨w1e, hw1e⟩ : ∃ X, X = w1 := ⟨_, rfl⟩); (have f0 := q0.frozen 0); (have d0 := q0.cell 0 _ rfl); (have hlt0 := q0.lt); clear kb1)
    have r0 := q0.set_ 0 (.slice A1 0 e1)
    have r1 := q1.far (p := ⟨w.heap.size, 0, none⟩) (by show w.heap.size + 1 ≠ w.heap.size; omega) (.slice A1 0 e1)
    have r2 := q2.far (p := ⟨w.heap.size, 0, none⟩) (by show w.heap.size + 1 + 1 ≠ w.heap.size; omega) (.slice A1 0 e1)
    have r3 := q3.far (p := ⟨w.heap.size, 0, none⟩) (by show w.heap.size + 1 + 1 + 1 ≠ w.heap.size; omega) (.slice A1 0 e1)
    have own5 : Own eLt 2 (w1.setCell ⟨w.heap.size, 0, none⟩ (.slice A1 0 e1)) (w.heap.size + 1 + 1 + 1 + 1) 59 A1 e1 [] := own1.kept (only_set (only_refl w1 w.heap.size) 0 _) (by
      cases h2 : blk A1 with
      | none => exact .inl rfl
      | some k => right; intro he; injection he with he; have := (own1.lt k h2).1; omega)
    have hB5 : Below w.heap.size w (w1.setCell ⟨w.heap.size, 0, none⟩ (.slice A1 0 e1)) := hB1.setCell (p := ⟨w.heap.size, 0, none⟩) (Nat.le_refl _) _
    simp only [List.setIfInBounds_toArray, List.set_cons_zero, List.set_cons_succ] at r0
    clear own1 q0 q1 q2 q3 hB1 hw1e w1e f0 d0 hlt0 hb0 hb1 hb2 hb3 hBx hh1 hs2' hs0 y0 y1 h k0 k1
    generalize w1.setCell ⟨w.heap.size, 0, none⟩ (.slice A1 0 e1) = w5 at *
    have d0 := r0.cell 0 _ rfl
    have d1 := r0.cell 1 _ rfl
    have d2 := r0.cell 2 _ rfl
    have e0 := r3.cell 0 _ rfl
    have e1' := r3.cell 1 _ rfl
    have u0 := r1.cell 0 _ rfl
    have u1 := r1.cell 1 _ rfl
    have u2 := r1.cell 2 _ rfl
    have v0 := r2.cell 0 _ rfl
    have v1 := r2.cell 1 _ rfl
    have f0 := r1.frozen 0
    have f1 := r1.frozen 1
    have f2 := r1.frozen 2
    have g0 := r2.frozen 0
    have g1 := r2.frozen 1
    go_region_law (fail)
    all_goals
      have r5 := ((r1.set_ 0 (.slice A1 0 e1)).set_ 1 (.int .i64 room)).set_ 2 (.bool sh)
      have r6 := ((r5.far (p := ⟨w.heap.size + 1 + 1, 0, none⟩) (by show w.heap.size + 1 ≠ w.heap.size + 1 + 1; omega) (.int .i64 x.from_)).far (p := ⟨w.heap.size + 1 + 1, 1, none⟩) (by show w.heap.size + 1 ≠ w.heap.size + 1 + 1; omega) (.int .u64 x.word)).drew
      have r7 := (((((r2.far (p := ⟨w.heap.size + 1, 0, none⟩) (by show w.heap.size + 1 + 1 ≠ w.heap.size + 1; omega) (.slice A1 0 e1)).far (p := ⟨w.heap.size + 1, 1, none⟩) (by show w.heap.size + 1 + 1 ≠ w.heap.size + 1; omega) (.int .i64 room)).far (p := ⟨w.heap.size + 1, 2, none⟩) (by show w.heap.size + 1 + 1 ≠ w.heap.size + 1; omega) (.bool sh)).set_ 0 (.int .i64 x.from_)).set_ 1 (.int .u64 x.word)).drew
      have hB7 := (((((hB5.setCell (p := ⟨w.heap.size + 1, 0, none⟩) (by simp) (.slice A1 0 e1)).setCell (p := ⟨w.heap.size + 1, 1, none⟩) (by simp) (.int .i64 room)).setCell (p := ⟨w.heap.size + 1, 2, none⟩) (by simp) (.bool sh)).setCell (p := ⟨w.heap.size + 1 + 1, 0, none⟩) (by simp; omega) (.int .i64 x.from_)).setCell (p := ⟨w.heap.size + 1 + 1, 1, none⟩) (by simp; omega) (.int .u64 x.word)).drew
      have own7 := ((own5.kept (only_set (only_set (only_set (only_refl w5 (w.heap.size + 1)) 0 (.slice A1 0 e1)) 1 (.int .i64 room)) 2 (.bool sh)) (own_ne own5 (by omega))).kept (only_set (only_set (only_refl _ (w.heap.size + 1 + 1)) 0 (.int .i64 x.from_)) 1 (.int .u64 x.word)) (own_ne own5 (by omega))).drew
      simp only [List.setIfInBounds_toArray, List.set_cons_zero, List.set_cons_succ] at r6 r7
      generalize (((((w5.setCell ⟨w.heap.size + 1, 0, none⟩ (.slice A1 0 e1)).setCell ⟨w.heap.size + 1, 1, none⟩ (.int .i64 room)).setCell ⟨w.heap.size + 1, 2, none⟩ (.bool sh)).setCell ⟨w.heap.size + 1 + 1, 0, none⟩ (.int .i64 x.from_)).setCell ⟨w.heap.size + 1 + 1, 1, none⟩ (.int .u64 x.word)).drew = w7 at *
      obtain ⟨x0, x1, x2⟩ : _ ∧ _ ∧ _ := ⟨r6.cell 0 _ rfl, r6.cell 1 _ rfl, r6.cell 2 _ rfl⟩
      obtain ⟨z0, z1⟩ : _ ∧ _ := ⟨r7.cell 0 _ rfl, r7.cell 1 _ rfl⟩
      clear d0 d1 d2 e0 e1' u0 u1 u2 v0 v1 f0 f1 f2 g0 g1
      go_wp2_with fail
      exact bodyPost_ret (v := .tuple #[.agg #[.slice A1 0 e1, .int .i64 room, .bool sh], .agg #[.int .i64 x.from_, .int .u64 x.word], .int .i64 0]) (by simp [results, Try.results21, go_sem, x0, x1, x2, z0, z1]) rfl ⟨A1, e1, by rw [hl0'.out], by rw [List.eq_nil_of_length_eq_zero hl0'.out]; exact own7.from_ (by omega), hB7⟩
  · have ho3 : off + 2 = off2 := by simpa [hcc] using ho2
    have hc2 : ¬ c - 1 = 0 := by omega
    subst ho3
    go_enter Try.func21, Try.ntmps21
    go_wp2_with (at_builtin; go_loud (refine wpList_append_fresh _ rfl _ _ rfl elemLt eLt_ok (Own.empty' _ _ (base := w.heap.size + 1 + 1 + 1 + 1) (by simp) (by omega)) rfl (m := l.length) (ys := l) rfl rfl ((hs2'.out.alloc _).alloc _) (by have := h64'.out; simp only [maxLen]; omega) (by have := h64'.out; omega) (by simp) ?_); intro A1 e1 w1 own1 kb1; (have q0 := ((hb0.out.alloc (Obj.cells #[.int .i64 x.from_, .int .u64 x.word] 59)).alloc (Obj.cells #[] 59)).keep kb1); (have q1 := ((hb1.out.alloc (Obj.cells #[.int .i64 x.from_, .int .u64 x.word] 59)).alloc (Obj.cells #[] 59)).keep kb1); (have q2 := ((hb2.out.alloc (Obj.cells #[.int .i64 x.from_, .int .u64 x.word] 59)).alloc (Obj.cells #[] 59)).keep kb1); (have q3 := (hb3.out.alloc (Obj.cells #[] 59)).keep kb1); (have hB1 := bstep ((hBx.out.alloc hBx.out.size (Obj.cells #[.int .i64 x.from_, .int .u64 x.word] 59)).alloc (hBx.out.alloc hBx.out.size (Obj.cells #[.int .i64 x.from_, .int .u64 x.word] 59)).size (Obj.cells #[] 59)) (Nat.le_refl _) kb1); (obtain ⟨w1e, hw1e⟩ : ∃ X, X = w1 := ⟨_, rfl⟩); (have f0 := q0.frozen 0); (have d0 := q0.cell 0 _ rfl); (have hlt0 := q0.lt); clear kb1)
    have r0 := q0.set_ 0 (.slice A1 l.length e1)
    have r1 := q1.far (p := ⟨w.heap.size, 0, none⟩) (by show w.heap.size + 1 ≠ w.heap.size; omega) (.slice A1 l.length e1)
    have r2 := q2.far (p := ⟨w.heap.size, 0, none⟩) (by show w.heap.size + 1 + 1 ≠ w.heap.size; omega) (.slice A1 l.length e1)
    have r3 := q3.far (p := ⟨w.heap.size, 0, none⟩) (by show w.heap.size + 1 + 1 + 1 ≠ w.heap.size; omega) (.slice A1 l.length e1)
    have own5 : Own eLt 2 (w1.setCell ⟨w.heap.size, 0, none⟩ (.slice A1 l.length e1)) (w.heap.size + 1 + 1 + 1 + 1) 59 A1 e1 l := own1.kept (only_set (only_refl w1 w.heap.size) 0 _) (by
      cases h2 : blk A1 with
      | none => exact .inl rfl
      | some k => right; intro he; injection he with he; have := (own1.lt k h2).1; omega)
    have hB5 : Below w.heap.size w (w1.setCell ⟨w.heap.size, 0, none⟩ (.slice A1 l.length e1)) := hB1.setCell (p := ⟨w.heap.size, 0, none⟩) (Nat.le_refl _) _
    simp only [List.setIfInBounds_toArray, List.set_cons_zero, List.set_cons_succ] at r0
    clear own1 q0 q1 q2 q3 hB1 hw1e w1e f0 d0 hlt0 hb0 hb1 hb2 hb3 hBx hh1 hs2' hs0 y0 y1 h k0 k1
    generalize w1.setCell ⟨w.heap.size, 0, none⟩ (.slice A1 l.length e1) = w5 at *
    have d0 := r0.cell 0 _ rfl
    have d1 := r0.cell 1 _ rfl
    have d2 := r0.cell 2 _ rfl
    have e0 := r3.cell 0 _ rfl
    have e1' := r3.cell 1 _ rfl
    have u0 := r1.cell 0 _ rfl
    have u1 := r1.cell 1 _ rfl
    have u2 := r1.cell 2 _ rfl
    have v0 := r2.cell 0 _ rfl
    have v1 := r2.cell 1 _ rfl
    have f0 := r1.frozen 0
    have f1 := r1.frozen 1
    have f2 := r1.frozen 2
    have g0 := r2.frozen 0
    have g1 := r2.frozen 1
    go_region_law (fail)
    all_goals
      have r5 := ((r1.set_ 0 (.slice A1 l.length e1)).set_ 1 (.int .i64 room)).set_ 2 (.bool sh)
      have r6 := ((r5.far (p := ⟨w.heap.size + 1 + 1, 0, none⟩) (by show w.heap.size + 1 ≠ w.heap.size + 1 + 1; omega) (.int .i64 x.from_)).far (p := ⟨w.heap.size + 1 + 1, 1, none⟩) (by show w.heap.size + 1 ≠ w.heap.size + 1 + 1; omega) (.int .u64 x.word)).drew
      have r7 := (((((r2.far (p := ⟨w.heap.size + 1, 0, none⟩) (by show w.heap.size + 1 + 1 ≠ w.heap.size + 1; omega) (.slice A1 l.length e1)).far (p := ⟨w.heap.size + 1, 1, none⟩) (by show w.heap.size + 1 + 1 ≠ w.heap.size + 1; omega) (.int .i64 room)).far (p := ⟨w.heap.size + 1, 2, none⟩) (by show w.heap.size + 1 + 1 ≠ w.heap.size + 1; omega) (.bool sh)).set_ 0 (.int .i64 x.from_)).set_ 1 (.int .u64 x.word)).drew
      have hB7 := (((((hB5.setCell (p := ⟨w.heap.size + 1, 0, none⟩) (by simp) (.slice A1 l.length e1)).setCell (p := ⟨w.heap.size + 1, 1, none⟩) (by simp) (.int .i64 room)).setCell (p := ⟨w.heap.size + 1, 2, none⟩) (by simp) (.bool sh)).setCell (p := ⟨w.heap.size + 1 + 1, 0, none⟩) (by simp; omega) (.int .i64 x.from_)).setCell (p := ⟨w.heap.size + 1 + 1, 1, none⟩) (by simp; omega) (.int .u64 x.word)).drew
      have own7 := ((own5.kept (only_set (only_set (only_set (only_refl w5 (w.heap.size + 1)) 0 (.slice A1 l.length e1)) 1 (.int .i64 room)) 2 (.bool sh)) (own_ne own5 (by omega))).kept (only_set (only_set (only_refl _ (w.heap.size + 1 + 1)) 0 (.int .i64 x.from_)) 1 (.int .u64 x.word)) (own_ne own5 (by omega))).drew
      simp only [List.setIfInBounds_toArray, List.set_cons_zero, List.set_cons_succ] at r6 r7
      generalize (((((w5.setCell ⟨w.heap.size + 1, 0, none⟩ (.slice A1 l.length e1)).setCell ⟨w.heap.size + 1, 1, none⟩ (.int .i64 room)).setCell ⟨w.heap.size + 1, 2, none⟩ (.bool sh)).setCell ⟨w.heap.size + 1 + 1, 0, none⟩ (.int .i64 x.from_)).setCell ⟨w.heap.size + 1 + 1, 1, none⟩ (.int .u64 x.word)).drew = w7 at *
      obtain ⟨x0, x1, x2⟩ : _ ∧ _ ∧ _ := ⟨r6.cell 0 _ rfl, r6.cell 1 _ rfl, r6.cell 2 _ rfl⟩
      obtain ⟨z0, z1⟩ : _ ∧ _ := ⟨r7.cell 0 _ rfl, r7.cell 1 _ rfl⟩
      clear d0 d1 d2 e0 e1' u0 u1 u2 v0 v1 f0 f1 f2 g0 g1
      go_wp2_with fail
      exact bodyPost_ret (v := .tuple #[.agg #[.slice A1 l.length e1, .int .i64 room, .bool sh], .agg #[.int .i64 x.from_, .int .u64 x.word], .int .i64 0]) (by simp [results, Try.results21, go_sem, x0, x1, x2, z0, z1]) rfl ⟨A1, e1, rfl, own7.from_ (by omega), hB7⟩
end Go.Proofs.Ytldpplfkimdaaaa
