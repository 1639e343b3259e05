/- Walks: taking a translation out; which may be. -/
import Derived.Test.YtfaddnedlloaiaaW2
namespace Go.Proofs.Ytfaddnedlloaiaa
open Go.RowKit Go.Lib

/-- only blocks g and r, and what is new, have turned -/
structure Tw (a w : World) (g : Nat) (r : Option Nat) : Prop where
  os : w.os = a.os
  tape : w.tape = a.tape
  output : w.output = a.output
  size : a.heap.size ≤ w.heap.size
  block : ∀ i, i < a.heap.size → i ≠ g → some i ≠ r → w.heap[i]? = a.heap[i]?
theorem Tw.refl (w : World) (g : Nat) (r : Option Nat) : Tw w w g r := ⟨rfl, rfl, rfl, Nat.le_refl _, fun _ _ _ _ => rfl⟩
theorem Tw.of_below {a w : World} {g : Nat} {r : Option Nat} (h : Below a.heap.size a w) : Tw a w g r := ⟨h.os, h.tape, h.output, h.size, fun i hi _ _ => h.block i hi⟩
theorem Tw.trans {a w w' : World} {g : Nat} {r : Option Nat} (h : Tw a w g r) (k : Tw w w' g r) : Tw a w' g r :=
  ⟨k.os.trans h.os, k.tape.trans h.tape, k.output.trans h.output, Nat.le_trans h.size k.size, fun i hi h1 h2 => (k.block i (Nat.lt_of_lt_of_le hi h.size) h1 h2).trans (h.block i hi h1 h2)⟩
theorem Tw.grown {a w : World} {g : Nat} {r : Option Nat} (h : a.grownBy w r) : Tw a w g r := ⟨h.os, h.tape, h.output, h.size, fun i hi _ h2 => h.block i hi h2⟩
theorem Tw.set_ {a w : World} {g : Nat} {r : Option Nat} (h : Tw a w g r) (i : Nat) (u : Value) : Tw a (w.setCell ⟨g, i, none⟩ u) g r :=
  h.trans ⟨rfl, rfl, rfl, by simp [World.setCell], fun k _ h1 _ => Below.heap_setCell w ⟨g, i, none⟩ u k h1⟩
/-- a store into what is new -/
theorem Tw.new_ {a w : World} {g : Nat} {r : Option Nat} (h : Tw a w g r) {p : Addr} (hp : a.heap.size ≤ p.block) (u : Value) : Tw a (w.setCell p u) g r :=
  ⟨h.os, h.tape, h.output, by simpa [World.setCell] using h.size, fun k hk h1 h2 => (Below.heap_setCell w p u k (by omega)).trans (h.block k hk h1 h2)⟩
theorem Tw.cell {a w : World} {g : Nat} {r : Option Nat} (h : Tw a w g r) {p : Addr} {v : Value} (hc : a.cell? p = some v) (h1 : p.block ≠ g) (h2 : some p.block ≠ r) : w.cell? p = some v := by
  rw [World.cell?_of_block (w := a) (h.block p.block (World.block_lt_of_cell? a p hc) h1 h2)]
  exact hc
theorem Tw.blk {a w : World} {g : Nat} {r : Option Nat} (h : Tw a w g r) {q : Nat} {t : TypeId} {cs : Array Value} (hc : Blk a q t cs) (h1 : q ≠ g) (h2 : some q ≠ r) : Blk w q t cs := (h.block q hc.lt h1 h2).trans hc
/-- behind a base that lies below both -/
theorem Tw.below {a w : World} {g : Nat} {r : Option Nat} (h : Tw a w g r) (hr : ∀ q, r = some q → g ≤ q) (hg : g ≤ a.heap.size) : Below g a w :=
  ⟨h.os, h.tape, h.output, h.size, fun i hi => h.block i (by omega) (by omega) (fun e => by have := hr i e.symm; omega)⟩

theorem Tb.own_lt {w : World} {g : Nat} {A : Option Addr} {c : Nat} {L : List En} {h m : Int} (t : Tb w g A c L h m) : ∀ q, blk A = some q → g < q ∧ q < w.heap.size := fun q hq => by
  have := t.2.lt q hq
  omega
/-- a store into the buffer's own block -/
theorem Tb.slot {w : World} {g : Nat} {A : Option Addr} {c : Nat} {L : List En} {h m : Int} (t : Tb w g A c L h m) {A' : Option Addr} {c' : Nat} {L' : List En} {w' : World} (hb : Blk w' g 30 #[.slice A L.length c, .int .i64 h, .int .i64 m])
    (ho : Own eE 4 w' (g + 1) 31 A' c' L') : Tb (w'.setCell ⟨g, 0, none⟩ (.slice A' L'.length c')) g A' c' L' h m := by
  refine ⟨hb.set_ 0 _, ho.kept (only_set (only_refl w' g) 0 _) ?_⟩
  cases e : Go.Proofs.Ytfaddnedlloaiaa.blk A' with
  | none => exact .inl rfl
  | some q => exact .inr (fun e2 => by injection e2 with e2; have := (ho.lt q e).1; omega)

theorem Tb.only {w w' : World} {g b : Nat} {A : Option Addr} {c : Nat} {L : List En} {h m : Int} (t : Tb w g A c L h m) (hg : w.grownBy w' (some b)) (h1 : g ≠ b) (h2 : blk A ≠ some b) : Tb w' g A c L h m :=
  ⟨t.1.grown hg (by simpa using h1), t.2.kept hg (.inr h2)⟩
def put4 (w : World) (b : Nat) (x : En) : World := (((w.setCell ⟨b, 0, none⟩ (.int .i64 x.env)).setCell ⟨b, 1, none⟩ (.int .i64 x.page)).setCell ⟨b, 2, none⟩ (.int .i64 x.frame)).setCell ⟨b, 3, none⟩ (.bool x.write)
theorem put4_only (w : World) (b : Nat) (x : En) : w.grownBy (put4 w b x) (some b) := only_set (only_set (only_set (only_set (only_refl w b) 0 _) 1 _) 2 _) 3 _
theorem put4_blk {w : World} {b : Nat} (x : En) {v0 v1 v2 v3 : Value} {t : TypeId} (h : Blk w b t #[v0, v1, v2, v3]) : Blk (put4 w b x) b t #[.int .i64 x.env, .int .i64 x.page, .int .i64 x.frame, .bool x.write] :=
  (((h.set_ 0 _).set_ 1 _).set_ 2 _).set_ 3 _
theorem Tw.only {a w w' : World} {g b : Nat} {r : Option Nat} (h : Tw a w g r) (k : w.grownBy w' (some b)) (hb : a.heap.size ≤ b) : Tw a w' g r :=
  ⟨k.os.trans h.os, k.tape.trans h.tape, k.output.trans h.output, Nat.le_trans h.size k.size, fun i hi h1 h2 => (k.block i (Nat.lt_of_lt_of_le hi h.size) (by simp; omega)).trans (h.block i hi h1 h2)⟩
def RetRm (g : Nat) (A : Option Addr) (c : Nat) (L : List En) (h m : Int) (x : En) (w : World) (e : Ending) (w' : World) : Prop := e = .returned (.agg #[.int .i64 x.env, .int .i64 x.page, .int .i64 x.frame, .bool x.write]) ∧ Tb w' g A c L h m ∧ Tw w w' g (blk A)

theorem own_en {w : World} {base : Nat} {e : TypeId} {b c : Nat} {L : List En} (h : Own eE 4 w base e (some ⟨b, 0, none⟩) c L) {i : Nat} (hi : i < L.length) :
    w.cell? ⟨b, i * 4, none⟩ = some (.int .i64 L[i].env) ∧ w.cell? ⟨b, i * 4 + 1, none⟩ = some (.int .i64 L[i].page) ∧ w.cell? ⟨b, i * 4 + 1 + 1, none⟩ = some (.int .i64 L[i].frame) ∧ w.cell? ⟨b, i * 4 + 1 + 1 + 1, none⟩ = some (.bool L[i].write) := by
  obtain ⟨b', off, hA, y0, y1, y2, y3⟩ := (h.sl eE_ok).en_at hi
  injection hA with hA
  injection hA with h1 h2
  subst h1 h2
  simp only [Nat.zero_add] at y0 y1 y2 y3
  exact ⟨y0, y1, y2, y3⟩

set_option maxRecDepth 100000 in
set_option maxHeartbeats 4000000 in
theorem rm_any (g : Nat) (A : Option Addr) (c : Nat) (L : List En) (h m : Int) (i : Nat) (w : World) (ht : Tb w g A c L h m) (hl : L.length ≤ 1000) (hi : i < L.length) :
    Calls Try.prog 11 #[.pointer (some ⟨g, 0, none⟩), .int .i64 i] w (RetRm g A c (L.eraseIdx i) h m L[i] w) := by
  have hlt := ht.own_lt
  rcases ht.2.shape with ⟨rfl, rfl, rfl⟩ | ⟨q, rfl⟩
  · exact absurd hi (by simp)
  · obtain ⟨hgq, hqs⟩ := hlt q rfl
    clear hlt
    have hb1 := below1 w (Obj.cells #[.int .i64 0, .int .i64 0, .int .i64 0, .bool false] 31)
    have t2 := ht.keep hb1
    have c0 := t2.1.cell 0 (.slice (some ⟨q, 0, none⟩) L.length c) rfl
    obtain ⟨y0, y1, y2, y3⟩ := own_en t2.2 hi
    have r1 := Blk.new w 31 #[.int .i64 0, .int .i64 0, .int .i64 0, .bool false]
    have hi0 : (0 : Int) ≤ (i : Int) := by omega
    have hi1 : (i : Int) < (L.length : Int) := by omega
    generalize L[i] = x at *
    obtain ⟨k, hk⟩ : ∃ k, L.length = i + 1 + k := ⟨L.length - i - 1, by omega⟩
    have hbx := below1 (w.alloc (Obj.cells #[.int .i64 0, .int .i64 0, .int .i64 0, .bool false] 31)) (Obj.cells #[.int .i64 x.env, .int .i64 x.page, .int .i64 x.frame, .bool x.write] 31)
    have HD := Lib.hid (fun W hW => del_any q c i k (g + 1) L W hW hk hl)
    have t3 := Lib.hid (t2.keep hbx)
    have c03 := t3.out.1.cell 0 (.slice (some ⟨q, 0, none⟩) L.length c) rfl
    have x1 := Blk.new' (w.alloc (Obj.cells #[.int .i64 0, .int .i64 0, .int .i64 0, .bool false] 31)) 31 #[.int .i64 x.env, .int .i64 x.page, .int .i64 x.frame, .bool x.write] (g := w.heap.size + 1) (by simp)
    have r3 := r1.keep hbx
    have hB3 : Below w.heap.size w _ := bstep hb1 (Nat.le_refl _) hbx
    clear hk t2 r1 hb1 ht hi
    go_enter Try.func11, Try.ntmps11
    go_wp2_with fail
    (refine (HD.out _ t3.out.2).mono ?_)
    rintro e w4 ⟨rfl, own4, hg4⟩
    have b4 := t3.out.1.grown hg4 (by simp; omega)
    have r4 := r3.grown hg4 (by simp; omega)
    have x4 := x1.grown hg4 (by simp; omega)
    have f4 := b4.frozen 0
    have z4 := b4.cell 0 (.slice (some ⟨q, 0, none⟩) L.length c) rfl
    have HT := Lib.hid (t3.out.slot b4 own4)
    have r5 := r4.far (p := ⟨g, 0, none⟩) (by simp; omega) (.slice (some ⟨q, 0, none⟩) (L.eraseIdx i).length c)
    have x5 := x4.far (p := ⟨g, 0, none⟩) (by simp; omega) (.slice (some ⟨q, 0, none⟩) (L.eraseIdx i).length c)
    have HW : Hid (Tw w (w4.setCell ⟨g, 0, none⟩ (.slice (some ⟨q, 0, none⟩) (L.eraseIdx i).length c)) g (blk (some ⟨q, 0, none⟩))) := ((Tw.of_below hB3).trans (Tw.grown hg4)).set_ 0 _
    have u0 := x5.cell 0 (.int .i64 x.env) rfl
    have u1 := x5.cell 1 (.int .i64 x.page) rfl
    have u2 := x5.cell 2 (.int .i64 x.frame) rfl
    have u3 := x5.cell 3 (.bool x.write) rfl
    have HR := Lib.hid r5
    have v0 := r5.cell 0 (.int .i64 0) rfl
    have v1 := r5.cell 1 (.int .i64 0) rfl
    have v2 := r5.cell 2 (.int .i64 0) rfl
    have v3 := r5.cell 3 (.bool false) rfl
    have g0 := r5.frozen 0
    have g1 := r5.frozen 1
    have g2 := r5.frozen 2
    have g3 := r5.frozen 3
    clear r5 x5 r4 x4 b4 own4 hg4 t3 c03 c0 y0 y1 y2 y3 r3 x1 HD hB3 hbx
    generalize (L.eraseIdx i) = L' at *
    generalize hW4 : w4.setCell ⟨g, 0, none⟩ (.slice (some ⟨q, 0, none⟩) L'.length c) = W4 at *
    go_wp2_with fail
    obtain ⟨d0, d1, d2, d3⟩ : _ ∧ _ ∧ _ ∧ _ := ⟨(put4_blk x HR.out).cell 0 (.int .i64 x.env) rfl, (put4_blk x HR.out).cell 1 (.int .i64 x.page) rfl, (put4_blk x HR.out).cell 2 (.int .i64 x.frame) rfl, (put4_blk x HR.out).cell 3 (.bool x.write) rfl⟩
    change bodyPost _ _ _ _ _ (put4 W4 w.heap.size x)
    exact bodyPost_ret (v := .agg #[.int .i64 x.env, .int .i64 x.page, .int .i64 x.frame, .bool x.write]) (by simp [results, Try.results11, go_sem, d0, d1, d2, d3]) rfl ⟨rfl, HT.out.only (put4_only _ _ _) (by omega) (by simp [blk]; omega), HW.out.only (put4_only _ _ _) (Nat.le_refl _)⟩

set_option maxHeartbeats 1000000 in
theorem to_any (e : En) (w : World) : Calls Try.prog 7 #[.agg #[.int .i64 e.env, .int .i64 e.page, .int .i64 e.frame, .bool e.write]] w fun r w' => r = .returned (.agg #[.int .i64 e.env, .int .i64 e.page, .int .i64 e.frame, .bool e.write]) ∧ Below w.heap.size w w' := by
  go_enter Try.func7, Try.ntmps7
  go_wp2
  exact bodyPost_ret (v := .agg #[.int .i64 e.env, .int .i64 e.page, .int .i64 e.frame, .bool e.write]) (by simp [results, Try.results7, go_sem]) rfl ⟨rfl, (below1 _ _).alloc (by simp) _⟩
end Go.Proofs.Ytfaddnedlloaiaa
