/- Walks: one task more, and the statement FitWiths. -/
import Derived.Test.YtojccjdldmjfgaaW3
import Derived.Laws.CopyOwn
namespace Go.Proofs.Ytojccjdldmjfgaa
open Go.RowKit

theorem info_tk : (Try.prog.info? 40).map (fun i => (i.zero, i.size, i.bytes)) = some (some (.agg #[.int .i64 0, .int .i64 0, .int .i64 0]), 3, 24) := by kernel_rfl
theorem elT : Elem Try.prog 22 40 3 24 := elem_mk Try.underlying22 info_tk rfl (by omega)

/-- a row that is known whole -/
theorem own_whole {w : World} {base : Nat} {e : TypeId} {g : Nat} {xs : List Int} (h : Own eI 1 w base e (some ⟨g, 0, none⟩) xs.length xs) : w.heap[g]? = some (.cells (xs.flatMap eI).toArray e (0, 0)) := by
  rcases h.2 with ⟨h', _⟩ | ⟨g', cap', cur, h', _, hg, _, _, hcs, htake⟩
  · simp at h'
  · simp only [Value.slice.injEq, Option.some.injEq, Addr.mk.injEq, and_true, true_and] at h'
    obtain ⟨rfl, rfl⟩ := h'
    rw [hg]
    have : cur.toList = xs.flatMap eI := by
      rw [← htake, List.take_of_length_le (by rw [Array.length_toList, hcs]; omega)]
    rw [← this]
theorem own_of_whole {w : World} {base : Nat} {e : TypeId} {g : Nat} {xs : List Int} (hb : base ≤ g) (hm : xs.length ≤ maxLen) (h : w.heap[g]? = some (.cells (xs.flatMap eI).toArray e (0, 0))) : Own eI 1 w base e (some ⟨g, 0, none⟩) xs.length xs := by
  have hl := flat_len eI_len xs
  refine ⟨by rw [hl], .inr ⟨g, xs.length, _, rfl, hb, h, Nat.le_refl _, hm, by simpa using hl, ?_⟩⟩
  rw [List.toList_toArray, List.take_of_length_le (by rw [hl]; omega)]
theorem splice_zero (s : List Int) (n : Nat) (h : s.length ≤ n) : splice ((List.replicate n (0 : Int)).flatMap eI) 0 (s.flatMap eI) = (s ++ List.replicate (n - s.length) 0).flatMap eI := by
  unfold splice
  have hl := flat_len eI_len s
  rw [Nat.mul_one] at hl
  rw [List.take_zero, List.nil_append, List.flatMap_append, hl, Nat.zero_add]
  congr 1
  have : ∀ m, (List.replicate m (0 : Int)).flatMap eI = List.replicate m (.int .i64 0) := fun m => by
    induction m with
    | zero => rfl
    | succ m ih => rw [List.replicate_succ, List.flatMap_cons, ih]; rfl
  rw [this, this, List.drop_replicate]

/-- only one block has turned: what lies below it stays -/
theorem only_low {w w' : World} {A : Option Addr} {g : Nat} (h : w.grownBy w' (blk A)) (hA : blk A = some g) (hg : g < w.heap.size) : Below g w w' := ⟨h.os, h.tape, h.output, h.size, fun i hi => h.block i (by omega) (by rw [hA]; intro e; injection e with e; omega)⟩
theorem size_int : (Try.prog.info? 3).map (·.size) = some 1 := by kernel_rfl
theorem sl_src {w : World} {S : Option Addr} {s : List Int} (h : Sl eI 1 w S s) (h0 : 0 < s.length) : ∃ ad, S = some ad ∧ ∀ j v, (s.flatMap eI)[j]? = some v → w.cell? (ad.add j) = some v := by
  obtain ⟨b, off, hS, hc⟩ := h h0
  refine ⟨⟨b, off, none⟩, hS, fun j v hv => ?_⟩
  have hj : j < s.length := by
    have := (List.getElem?_eq_some_iff.1 hv).1
    rw [flat_len eI_len] at this
    omega
  have h1 := flat_at eI_len s j s[j] 0 (List.getElem?_eq_getElem hj) (by omega)
  rw [Nat.mul_one, Nat.add_zero, hv] at h1
  have h2 := hc j s[j] 0 v (List.getElem?_eq_getElem hj) h1.symm
  rw [Nat.mul_one, Nat.add_zero] at h2
  unfold Addr.add
  split
  · rename_i h3; subst h3; exact h2
  · exact h2
theorem low_own {α : Type} {enc : α → List Value} {sz B : Nat} {w w' : World} {base : Nat} {e : TypeId} {A : Option Addr} {c : Nat} {xs : List α} (h : Own enc sz w base e A c xs) (hb : Below B w w') (hA : ∀ q, blk A = some q → q < B) : Own enc sz w' base e A c xs := by
  refine ⟨h.1, ?_⟩
  rcases h.2 with h1 | ⟨g, cap, cur, h1, h2, h3, h4⟩
  · exact .inl h1
  · refine .inr ⟨g, cap, cur, h1, h2, ?_, h4⟩
    injection h1 with a1
    rw [hb.block g (hA g (by rw [a1]; rfl))]
    exact h3
theorem low_of {B : Nat} {w w1 w2 : World} {A : Option Addr} (h1 : Below w.heap.size w w1) (h2 : w1.grownBy w2 (blk A)) (hA : ∀ q, blk A = some q → B ≤ q) (hB : B ≤ w.heap.size) : Below B w w2 :=
  ⟨h2.os.trans h1.os, h2.tape.trans h1.tape, h2.output.trans h1.output, Nat.le_trans h1.size h2.size, fun i hi => (h2.block i (by have := h1.size; omega) (fun e => by have := hA i e.symm; omega)).trans (h1.block i (by omega))⟩
theorem lowcell {B : Nat} {W w1 : World} {p : Addr} {v : Value} (hb : Below B W w1) (h : W.cell? p = some v) (hp : p.block < B) : w1.cell? p = some v := by
  rw [hb.cell hp]; exact h
theorem below_none {w w' : World} (h : w.grownBy w' none) : Below w.heap.size w w' := ⟨h.os, h.tape, h.output, h.size, fun i hi => h.block i hi (by simp)⟩
/-- the sections, with noughts behind them, and one more -/
def secL (s : List Int) (n : Nat) (x : Int) : List Int := s ++ List.replicate (n - s.length) 0 ++ [x]
theorem secL_len {s : List Int} {n : Nat} {x : Int} (h : s.length ≤ n) : (secL s n x).length = n + 1 := by
  unfold secL
  simp
  omega
theorem secL_set (s : List Int) (n : Nat) (x : Int) (h : s.length ≤ n) : (s ++ List.replicate (n + 1 - s.length) 0).set n x = secL s n x := by
  unfold secL
  rw [show n + 1 - s.length = (n - s.length) + 1 by omega, List.replicate_succ', ← List.append_assoc]
  have hl : (s ++ List.replicate (n - s.length) (0 : Int)).length = n := by simp; omega
  rw [List.set_append_right _ _ (by omega), hl, Nat.sub_self]
  rfl

theorem with_store {w : World} {base : Nat} {e : TypeId} {g : Nat} {s : List Int} {n : Nat} (h : Own eI 1 w base e (some ⟨g, 0, none⟩) (s ++ List.replicate (n + 1 - s.length) 0).length (s ++ List.replicate (n + 1 - s.length) 0)) (x : Int) (hn : Hid (s.length ≤ n)) :
    Own eI 1 (w.setCell ⟨g, n, none⟩ (.int .i64 x)) base e (some ⟨g, 0, none⟩) (n + 1) (secL s n x) ∧ w.frozen? ⟨g, n, none⟩ = false ∧ (∃ z, w.cell? ⟨g, n, none⟩ = some (.int .i64 z)) ∧ Below g w (w.setCell ⟨g, n, none⟩ (.int .i64 x)) := by
  have hn := hn.out
  have hl : (s ++ List.replicate (n + 1 - s.length) (0 : Int)).length = n + 1 := by simp; omega
  have h1 := (own_set h n x).1
  rw [secL_set s n x hn, hl] at h1
  exact ⟨h1, own_frozen h n, ⟨_, own_at h (i := n) (by omega)⟩, (Below.refl g w).setCell (p := ⟨g, n, none⟩) (Nat.le_refl g) _⟩
theorem with_keeps {w : World} {base : Nat} {e1 e2 : TypeId} {A : Option Addr} {g c : Nat} {l : List Tk} {t : Tk} {s : List Int} {x b p n : Int} (h1 : Own eT 3 w base e1 A c (l ++ [t])) (h2 : Own eI 1 w base e2 (some ⟨g, 0, none⟩) (l.length + 1) (secL s l.length x)) (hl : Hid (l.length ≤ 12)) (hs : Hid (s.length ≤ l.length)) :
    Hid (Calls Try.prog 13 #[.slice A (l.length + 1) c, .slice (some ⟨g, 0, none⟩) (l.length + 1) (l.length + 1), .agg #[.int .i64 b, .int .i64 p], .int .i64 n] w fun e w' => e = .returned (.bool (keepsB (l ++ [t]) (secL s l.length x) b p n)) ∧ Below w.heap.size w w') := by
  have hl := hl.out
  have e2 := secL_len (x := x) hs.out
  have h := fKeeps_any A (l ++ [t]) c (some ⟨g, 0, none⟩) (secL s l.length x) (l.length + 1) b p n w (h1.sl eT_ok) (by simp; omega) (h2.sl eI_ok) (by omega)
  rw [e2, List.length_append] at h
  exact h

set_option maxRecDepth 100000 in
set_option maxHeartbeats 4000000 in
theorem with_yes (A : Option Addr) (l : List Tk) (c : Nat) (S : Option Addr) (s : List Int) (d : Nat) (t : Tk) (x b p n : Int) (w : World) (hs : Sl eT 3 w A l) (hl : l.length ≤ 12) (hz : Sl eI 1 w S s) (hsl : s.length ≤ l.length) :
    Calls Try.prog 17 #[.slice A l.length c, .slice S s.length d, .agg #[.int .i64 t.cost, .int .i64 t.period, .int .i64 t.dead], .int .i64 x, .agg #[.int .i64 b, .int .i64 p], .int .i64 n] w fun e w' => e = .returned (.bool (keepsB (l ++ [t]) (secL s l.length x) b p n)) ∧ Below w.heap.size w w' := by
  obtain ⟨i0, hi0, hz0, hz1', hz2⟩ := info_parts info_int
  obtain ⟨j0, hj0, jz0, jz1, jz2⟩ := info_parts info_tk
  have hB := (below1 w (Obj.cells #[.int .i64 t.cost, .int .i64 t.period, .int .i64 t.dead] 40)).alloc (by simp) (Obj.cells #[.int .i64 b, .int .i64 p] 31)
  have bk8 := (Blk.new w 40 #[.int .i64 t.cost, .int .i64 t.period, .int .i64 t.dead]).alloc (Obj.cells #[.int .i64 b, .int .i64 p] 31)
  have bk10 := Blk.new' (w.alloc (Obj.cells #[.int .i64 t.cost, .int .i64 t.period, .int .i64 t.dead] 40)) 31 #[.int .i64 b, .int .i64 p] (g := w.heap.size + 1) (by simp)
  have HSL : Hid (s.length ≤ l.length) := hsl
  have HN : Hid ((s.flatMap eI).length = Nat.min s.length (l.length + 1)) := by
    show _ = _
    rw [flat_len eI_len, Nat.mul_one]
    exact (Nat.min_eq_left (by omega)).symm
  have HN2 : Hid ((s.flatMap eI).length = s.length) := by
    show _ = _
    rw [flat_len eI_len, Nat.mul_one]
  have HF : Hid (0 + (s.flatMap eI).length ≤ ((List.replicate (l.length + 1) (0 : Int)).flatMap eI).length) := by
    show _ ≤ _
    rw [flat_len eI_len, flat_len eI_len, List.length_replicate]
    omega
  have hsl2 : (s.length : Int) ≤ (l.length : Int) := by omega
  go_enter Try.func17, Try.ntmps17
  have hBs := hB.size
  have hs1 := hs.keep hB
  have hz1 := hz.keep hB
  have x0 := bk8.cell 0 (.int .i64 t.cost) rfl
  have x1 := bk8.cell 1 (.int .i64 t.period) rfl
  have x2 := bk8.cell 2 (.int .i64 t.dead) rfl
  have r0 := bk10.cell 0 (.int .i64 b) rfl
  have r1 := bk10.cell 1 (.int .i64 p) rfl
  clear bk8 bk10
  go_wp2_with (first | (at_make; refine wpList_make_own _ rfl _ _ 22 rfl w.heap.size 40 j0 _ 3 Try.underlying22 hj0 jz0 jz1 _ _ _ (l.length + 1) rfl rfl (by omega) (by rw [jz2]; omega) (by simp only [maxLen]; omega) hBs ?_; intro w3 ownW hg3; (have own0 : Own eT 3 w3 w.heap.size 40 (some ⟨w.heap.size + 1 + 1, 0, none⟩) (l.length + 1) [] := by simpa [Own] using ownW); clear ownW; (have hb3 := below_none hg3); replace hs1 := hs1.keep hb3; replace hz1 := hz1.keep hb3; replace x0 := kcell hb3 x0; replace x1 := kcell hb3 x1; replace x2 := kcell hb3 x2; replace r0 := kcell hb3 r0; replace r1 := kcell hb3 r1; replace hB := bstep hB (Nat.le_refl _) hb3; replace hBs := hB.size; (have hG3 : w.heap.size + 1 + 1 < w3.heap.size := (own0.lt _ rfl).2); clear hg3 hb3) | (at_builtin; refine wpList_append_sl _ rfl _ _ rfl elT eT_ok own0 (n := 0) rfl rfl (m := l.length) rfl (ys := l) rfl hs1 (by simp only [maxLen]; omega) (by omega) hBs _ rfl l.length (by simp) ?_; intro A1 e1 w4 own1 hg4 at4; simp only [List.nil_append] at own1; (have hlow4 := only_low (g := w.heap.size + 1 + 1) hg4 rfl hG3); replace hs1 := hs.keep (hB.trans (hlow4.mono (by omega))); replace hz1 := hz.keep (hB.trans (hlow4.mono (by omega))); replace x0 := lowcell hlow4 x0 (by simp; omega); replace x1 := lowcell hlow4 x1 (by simp; omega); replace x2 := lowcell hlow4 x2 (by simp; omega); replace r0 := lowcell hlow4 r0 (by simp); replace r1 := lowcell hlow4 r1 (by simp); replace hB := hB.trans (hlow4.mono (by omega)); replace hBs := hB.size; (have hA1 := grow_ge at4 (ge_at (B := w.heap.size + 1 + 1) (Nat.le_refl _)) (by omega)); (have hG4 : w.heap.size + 1 + 1 < w4.heap.size := Nat.lt_of_lt_of_le hG3 hg4.size); clear hg4 at4 hlow4) | (at_builtin; refine wpList_append_sl _ rfl _ _ rfl elT eT_ok (own1.alloc _) (n := l.length) rfl rfl (m := 1) rfl (ys := [t]) rfl (Sl.new eT_ok w4 _ _ rfl _) (by simp only [maxLen]; omega) (by omega) (by simp; omega) _ rfl (l.length + 1) rfl ?_; intro A2 e2 w5 own2 hg5 at5; (have hlow5 := low_of (B := w.heap.size + 1 + 1) (below1 w4 (Obj.cells #[.int .i64 t.cost, .int .i64 t.period, .int .i64 t.dead] 40)) hg5 hA1 (by omega)); replace hs1 := hs.keep (hB.trans (hlow5.mono (by omega))); replace hz1 := hz.keep (hB.trans (hlow5.mono (by omega))); replace r0 := lowcell hlow5 r0 (by simp); replace r1 := lowcell hlow5 r1 (by simp); replace hB := hB.trans (hlow5.mono (by omega)); replace hBs := hB.size; (have hlt2 : w.heap.size + 1 + 1 < w5.heap.size := Nat.lt_of_lt_of_le hG4 (Nat.le_trans (below1 w4 (Obj.cells #[.int .i64 t.cost, .int .i64 t.period, .int .i64 t.dead] 40)).size hg5.size)); (have hlt3 : ∀ q, blk A2 = some q → q < w5.heap.size := fun q hq => (own2.lt q hq).2); clear hg5 at5 hlow5 x0 x1 x2 hA1 own0 own1) | (at_make; refine wpList_make_full _ rfl _ _ 23 rfl w.heap.size 3 i0 _ 1 Try.underlying23 hi0 hz0 hz1' _ _ _ _ (l.length + 1) rfl rfl (by omega) (by omega) (by rw [hz2]; omega) (by simp only [maxLen]; omega) hBs ?_; intro w6 ownH hg6; rw [made_ints] at ownH; (have own6 : Own eI 1 w6 w.heap.size 3 (some ⟨w5.heap.size, 0, none⟩) (List.replicate (l.length + 1) (0 : Int)).length (List.replicate (l.length + 1) 0) := by simpa [Own] using ownH); (have hb6 := below_none hg6); replace own2 := own2.keep hb6; replace hs1 := hs1.keep hb6; replace hz1 := hz1.keep hb6; replace r0 := kcell hb6 r0; replace r1 := kcell hb6 r1; replace hB := bstep hB (Nat.le_refl _) hb6; (have hG6 : w.heap.size + 1 + 1 ≤ w5.heap.size := by have := (own6.lt _ rfl).1; have := hlt2; omega); (have hA2 : ∀ q, blk A2 = some q → q < w5.heap.size := hlt3); (have hBs' : w.heap.size ≤ w5.heap.size := by omega); clear hg6 hb6 ownH) | (have hown6 := own6; go_loud (refine wpList_copy_splice rfl _ _ 23 23 rfl 3 Try.underlying23 size_int _ _ _ _ _ _ rfl rfl w5.heap.size 0 ((List.replicate (l.length + 1) (0 : Int)).flatMap eI) 3 (own_whole own6) (s.flatMap eI) HN.out (fun h0 => ⟨rfl, sl_src hz1 (Nat.lt_of_lt_of_eq h0 HN2.out)⟩) HF.out (fun v hv => one_flat eI_ok s v hv) w5.heap.size w6 (Below.refl _ _) (Nat.le_refl _) ?_; intro w7 HG7 hb7; (have own7 := own_of_whole (base := w.heap.size) (xs := s ++ List.replicate (l.length + 1 - s.length) 0) (by omega) (by simp [maxLen]; omega) (by rw [← splice_zero s (l.length + 1) (by omega)]; exact HG7.out)); (have sset := (own2.sl eT_ok)); replace own2 := low_own (B := w5.heap.size) own2 hb7 hA2; replace r0 := lowcell hb7 r0 (by simp; omega); replace r1 := lowcell hb7 r1 (by simp; omega); replace hB := hB.trans (hb7.mono hBs'); obtain ⟨own8, f0, y0, hb8⟩ := with_store own7 x (Lib.hid HSL.out); obtain ⟨z, y0⟩ := y0; replace r0 := And.intro r0 (lowcell hb8 r0 (by simp; omega)); replace r1 := And.intro r1 (lowcell hb8 r1 (by simp; omega)); obtain ⟨r0, q0⟩ := r0; obtain ⟨r1, q1⟩ := r1; replace own2 := low_own (B := w5.heap.size) own2 hb8 hA2; replace hB := hB.trans (hb8.mono hBs'); (have HK := with_keeps (b := b) (p := p) (n := n) own2 own8 (Lib.hid hl) (Lib.hid HSL.out)); clear own6 own7 own8 own2 hown6 HG7 hb7 hb8 hs1 hz1 sset)) | (go_at_call 13; (with_reducible refine (HK.out).mono ?_); rintro e w9 ⟨rfl, hb9⟩; replace hB := bstep hB (by omega) hb9; clear hb9))
  go_ret
  exact ⟨rfl, hB⟩

theorem mkS {W w1 : World} {p q r : Addr} {v u x : Value} (hb : Below W.heap.size W w1) (y0 : W.cell? p = some v) (y1 : W.cell? q = some u) (y2 : W.cell? r = some x) :
    Below W.heap.size W w1 ∧ w1.cell? p = some v ∧ w1.cell? q = some u ∧ w1.cell? r = some x := ⟨hb, kcell hb y0, kcell hb y1, kcell hb y2⟩
theorem mkSa {W w1 : World} {p q r : Addr} {v u x : Value} {o : Obj} {X : Prop} (hb : Below W.heap.size W w1 ∧ X) (y0 : W.cell? p = some v) (y1 : W.cell? q = some u) (y2 : W.cell? r = some x) :
    Below W.heap.size W (w1.alloc o) ∧ (w1.alloc o).cell? p = some v ∧ (w1.alloc o).cell? q = some u ∧ (w1.alloc o).cell? r = some x := mkS (hb.1.alloc hb.1.size o) y0 y1 y2
theorem mkSd {W w1 : World} {p q r : Addr} {v u x : Value} {o : Obj} {X : Prop} (hb : Below W.heap.size W w1.drew ∧ X) (y0 : W.cell? p = some v) (y1 : W.cell? q = some u) (y2 : W.cell? r = some x) :
    Below W.heap.size W (w1.alloc o).drew ∧ (w1.alloc o).drew.cell? p = some v ∧ (w1.alloc o).drew.cell? q = some u ∧ (w1.alloc o).drew.cell? r = some x :=
  mkS ((keepA0 (w1 := w1) (W := W) (o := o) ⟨hb.1.os, hb.1.tape, hb.1.output, hb.1.size, hb.1.block⟩).drew) y0 y1 y2
theorem mkSg {W w1 w2 : World} {row : Option Nat} {p q r : Addr} {v u x : Value} {X : Prop} (hb : Below W.heap.size W w1 ∧ X) (hg : w1.grownBy w2 row) (hr : ∀ k, row = some k → W.heap.size ≤ k) (y0 : W.cell? p = some v) (y1 : W.cell? q = some u) (y2 : W.cell? r = some x) :
    Below W.heap.size W w2 ∧ w2.cell? p = some v ∧ w2.cell? q = some u ∧ w2.cell? r = some x := mkS (bgrow hb.1 hg hr) y0 y1 y2
theorem slB {α : Type} {enc : α → List Value} {sz : Nat} {W w1 : World} {A : Option Addr} {xs : List α} {X : Prop} (hb : Below W.heap.size W w1 ∧ X) (h : Sl enc sz W A xs) : Sl enc sz w1 A xs := h.keep hb.1
set_option maxRecDepth 100000 in
set_option maxHeartbeats 1000000 in
theorem with_no (A : Option Addr) (n c : Nat) (S : Option Addr) (m d : Nat) (t : Tk) (x b p k : Int) (w : World) (h : ¬ m ≤ n) :
    Calls Try.prog 17 #[.slice A n c, .slice S m d, .agg #[.int .i64 t.cost, .int .i64 t.period, .int .i64 t.dead], .int .i64 x, .agg #[.int .i64 b, .int .i64 p], .int .i64 k] w fun e w' => e = .returned (.bool false) ∧ Below w.heap.size w w' := by
  have hB := (below1 w (Obj.cells #[.int .i64 t.cost, .int .i64 t.period, .int .i64 t.dead] 40)).alloc (by simp) (Obj.cells #[.int .i64 b, .int .i64 p] 31)
  have h1 : n < m := by omega
  go_enter Try.func17, Try.ntmps17
  go_wp2_with fail
  go_ret
  exact ⟨rfl, hB⟩
theorem sec_n {s : List Int} {k : Nat} (h : s.length ≤ k) (z : Int) : Hid ((s ++ List.replicate (k - s.length) z).length = k) := by
  show _ = _
  simp
  omega
theorem sec_n1 {s : List Int} {k : Nat} (h : s.length ≤ k) (z : Int) : Hid (s ++ List.replicate (k - s.length) z ++ [z] = s ++ List.replicate (k + 1 - s.length) z) := by
  show _ = _
  rw [show k + 1 - s.length = (k - s.length) + 1 by omega, List.replicate_succ', List.append_assoc]
theorem sec_nx {s : List Int} {k m : Nat} (x : Int) (h : k = m) : Hid (s ++ List.replicate (k - s.length) 0 ++ [x] = secL s m x) := by
  subst h
  rfl
theorem right_w (A : Option Addr) (c : Nat) (S : Option Addr) (d : Nat) (b p : Int) (w : World) {l : List Tk} {t : Tk} {s : List Int} {x : Int} (hl : l.length ≤ 12) (hn : s.length ≤ l.length) (h1 : Sl eT 3 w A (l ++ [t])) (h2 : Sl eI 1 w S (secL s l.length x)) :
    Calls Try.prog 11 #[.slice A (l.length + 1) c, .slice S (l.length + 1) d, .agg #[.int .i64 b, .int .i64 p]] w fun e w' => e = .returned (.bool (rightF (l ++ [t]) (secL s l.length x) b p)) ∧ Below w.heap.size w w' := by
  have e2 := secL_len (x := x) hn
  have h := rRight_any A (l ++ [t]) c S (secL s l.length x) d b p w h1 (by simp; omega) h2 (by omega)
  rw [e2, List.length_append] at h
  exact h
theorem first_w (A : Option Addr) (c : Nat) (S : Option Addr) (d : Nat) {b p : Int} (u : Nat) (w : World) {l : List Tk} {t : Tk} {s : List Int} {x : Int} (hl : l.length ≤ 12) (hn : s.length ≤ l.length) (H : RightF (l ++ [t]) (secL s l.length x) b p) (hu : u ≤ 1048576) (h1 : Sl eT 3 w A (l ++ [t])) (h2 : Sl eI 1 w S (secL s l.length x)) :
    Calls Try.prog 14 #[.slice A (l.length + 1) c, .slice S (l.length + 1) d, .agg #[.int .i64 b, .int .i64 p], .int .i64 u] w fun e w' => e = .returned (.int .i64 ((firstV (l ++ [t]) (secL s l.length x) b p u).getD (-1))) ∧ Below w.heap.size w w' := by
  have e2 := secL_len (x := x) hn
  have h := rFirst_yes A (l ++ [t]) c S (secL s l.length x) d b p u w h1 h2 H hu
  rw [e2, List.length_append] at h
  exact h
theorem fewB_t {n m : Nat} {k : Int} (h : fewB n m k = true) : n ≤ 12 ∧ m ≤ 12 := ⟨(of_decide_eq_true h).1, (of_decide_eq_true h).2.1⟩
set_option maxRecDepth 100000 in
set_option maxHeartbeats 8000000 in
theorem withs_any (A : Option Addr) (l : List Tk) (c : Nat) (S : Option Addr) (s : List Int) (d : Nat) (t : Tk) (x b p n : Int) (w : World) (hs : Sl eT 3 w A l) (hm : l.length ≤ 9223372036854775807) (hz : Sl eI 1 w S s) (hmz : s.length ≤ 9223372036854775807) :
    Calls Try.prog 4 #[.slice A l.length c, .slice S s.length d, .agg #[.int .i64 t.cost, .int .i64 t.period, .int .i64 t.dead], .int .i64 x, .agg #[.int .i64 b, .int .i64 p], .int .i64 n] w fun e w' => e = .returned (.bool true) ∧ Below w.heap.size w w' := by
  have hB := (below1 w (Obj.cells #[.int .i64 t.cost, .int .i64 t.period, .int .i64 t.dead] 40)).alloc (by simp) (Obj.cells #[.int .i64 b, .int .i64 p] 25)
  have HF := Lib.hid (fun W => few_any A l.length c S s.length d n W)
  cases hf : fewB l.length s.length n
  · rw [hf] at HF
    go_enter Try.func4, Try.ntmps4
    go_wp2_with (first | (go_at_call 7; (with_reducible refine (HF.out _).mono ?_); rintro e w5 ⟨rfl, rfl⟩) | (go_at_call 8; (with_reducible refine (awake_any _).mono ?_); rintro e w5 ⟨rfl, hb⟩; replace hB := bstep hB (Nat.le_refl _) hb; clear hb))
    go_ret
    exact ⟨rfl, hB⟩
  rw [hf] at HF
  have hl12 := fewB_t hf
  clear hf
  have bk8 := (Blk.new w 40 #[.int .i64 t.cost, .int .i64 t.period, .int .i64 t.dead]).alloc (Obj.cells #[.int .i64 b, .int .i64 p] 25)
  have bk10 := Blk.new' (w.alloc (Obj.cells #[.int .i64 t.cost, .int .i64 t.period, .int .i64 t.dead] 40)) 25 #[.int .i64 b, .int .i64 p] (g := w.heap.size + 1) (by simp)
  have x0 := bk8.cell 0 (.int .i64 t.cost) rfl
  have x1 := bk8.cell 1 (.int .i64 t.period) rfl
  have x2 := bk8.cell 2 (.int .i64 t.dead) rfl
  have r0 := bk10.cell 0 (.int .i64 b) rfl
  have r1 := bk10.cell 1 (.int .i64 p) rfl
  clear bk8 bk10
  by_cases hsl : s.length ≤ l.length
  case neg =>
    have HW := Lib.hid (fun W => with_no A l.length c S s.length d t x b p n W hsl)
    have hgt : l.length < s.length := by omega
    go_enter Try.func4, Try.ntmps4
    go_wp2_with (first | (go_at_call 7; (with_reducible refine (HF.out _).mono ?_); rintro e w5 ⟨rfl, rfl⟩))
    (have aft_x0 := Aft.cell x0; have aft_x1 := Aft.cell x1; have aft_x2 := Aft.cell x2; have aft_r0 := Aft.cell r0; have aft_r1 := Aft.cell r1; refine wp_region_aft (by kernel_rfl) (by kernel_rfl) ?_; (repeat (go_big_quiet_step ((first | (go_at_call 10; with_reducible exact aft_call (to_any _ _ _)) | (go_at_call 17; with_reducible exact aft_call (HW.out _)))))); refine wpQuiet_nil ?_; clear aft_x0 aft_x1 aft_x2 aft_r0 aft_r1; intro w7 hw2_; have hb7 := Aft.below hw2_; clear hw2_)
    replace hB := bstep hB (Nat.le_refl _) hb7
    go_wp2_with (first | (go_at_call 8; (with_reducible refine (awake_any _).mono ?_); rintro e w5 ⟨rfl, hb⟩; replace hB := bstep hB (Nat.le_refl _) hb; clear hb))
    go_ret
    exact ⟨rfl, hB⟩
  obtain ⟨G, hG⟩ : ∃ G, Hid (keepsB (l ++ [t]) (secL s l.length x) b p n = G) := ⟨_, rfl⟩
  have HW := Lib.hid (fun W hW hW2 => with_yes A l c S s d t x b p n W hW hl12.1 hW2 hsl)
  rw [hG.out] at HW
  have HSL : Hid (s.length ≤ l.length) := hsl
  have HL12 := Lib.hid hl12
  obtain ⟨hl, hs12⟩ := hl12
  have hngt : ¬ l.length < s.length := by omega
  clear hsl
  go_enter Try.func4, Try.ntmps4
  go_wp2_with (first | (go_at_call 7; (with_reducible refine (HF.out _).mono ?_); rintro e w5 ⟨rfl, rfl⟩))
  (have aft_x0 := Aft.cell x0; have aft_x1 := Aft.cell x1; have aft_x2 := Aft.cell x2; have aft_r0 := Aft.cell r0; have aft_r1 := Aft.cell r1; refine wp_region_aft (by kernel_rfl) (by kernel_rfl) ?_; (repeat (go_big_quiet_step ((first | (go_at_call 10; with_reducible exact aft_call (to_any _ _ _)) | (go_at_call 17; with_reducible exact aft_call (HW.out _ ((hs.keep hB).keep (Aft.ok _)) ((hz.keep hB).keep (Aft.ok _)))))))); refine wpQuiet_nil ?_; clear aft_x0 aft_x1 aft_x2 aft_r0 aft_r1; intro wb hw2_; have hb7 := Aft.below hw2_; clear hw2_)
  replace hB := bstep hB (Nat.le_refl _) hb7
  replace x0 := kcell hb7 x0
  replace x1 := kcell hb7 x1
  replace x2 := kcell hb7 x2
  replace r0 := kcell hb7 r0
  replace r1 := kcell hb7 r1
  have hs1 := hs.keep hB
  clear hb7 HW HF
  go_wp2_with fail
  go_cut [14] (fun s14 wx => ∃ (A2 : Option Addr) (e2 : Nat), s14 = .slice A2 (l.length + 1) e2 ∧ Own eT 3 wx wb.heap.size 40 A2 e2 (l ++ [t]) ∧ Below wb.heap.size wb wx)
  case first =>
    go_region_held3 (fun w' => Below wb.heap.size wb w' ∧ w'.cell? ⟨w.heap.size, 0, none⟩ = some (.int .i64 t.cost) ∧ w'.cell? ⟨w.heap.size, 1, none⟩ = some (.int .i64 t.period) ∧ w'.cell? ⟨w.heap.size, 2, none⟩ = some (.int .i64 t.dead))
    (first | exact mkS (Below.refl _ _).drew x0 x1 x2 | exact mkSd ‹_› x0 x1 x2 | exact mkSa ‹_› x0 x1 x2 | exact mkSg ‹_› hg2 (fun q hq => n1 q hq) x0 x1 x2 | exact mkSg ‹_› hg1 (fun q hq => ge_at (by omega) q hq) x0 x1 x2)
    (first | (refine step_append_sl _ rfl (.tmp 41) (.tmp 42) rfl elT eT_ok (base := wb.heap.size) (xs := ([] : List Tk)) ?o (n := 0) rfl rfl (m := l.length) rfl (ys := l) rfl ?s (by simp only [maxLen]; omega) (by omega) ?d _ rfl l.length (by simp) ?_; (case o => first | exact Own.empty' wb 40 rfl (Nat.le_refl _) | exact (Own.empty' wb 40 rfl (Nat.le_refl _)).alloc _ | exact Own.empty' (wb.alloc (Obj.cells #[.int .i64 t.cost, .int .i64 t.period, .int .i64 t.dead] 40)) 40 (by simp) (by omega)); (case s => exact slB ‹_› hs1); (case d => first | omega | (simp; done) | (simp; omega)); intro A1 e1 w1' own1 hg1 at1; simp only [List.nil_append] at own1; have n1 : ∀ q, blk A1 = some q → wb.heap.size ≤ q := grow_ge at1 (ge_at (by omega)) (by simp; try omega)) | (refine step_append_sl _ rfl (.tmp 43) (.tmp 45) rfl elT eT_ok (base := wb.heap.size) (xs := l) ?o (n := l.length) rfl rfl (m := 1) rfl (ys := [t]) rfl ?s (by simp only [maxLen]; omega) (by omega) ?d _ rfl (l.length + 1) rfl ?_; (case o => first | exact own1 | exact own1.alloc _); (case s => first | exact Sl.new' eT_ok w1' _ _ rfl _ rfl | exact (Sl.drew (Sl.new' eT_ok (wb.alloc (Obj.cells #[] 40)) _ _ rfl _ (by simp))).grown hg1 (by intro q hq e; simp [blk] at hq e; omega) | exact (Sl.drew ((Sl.new' eT_ok wb _ _ rfl _ rfl).alloc _)).grown hg1 (by intro q hq e; simp [blk] at hq e; omega)); (case d => have h91 := hg1.size; (try simp at h91); first | omega | (simp; done) | (simp; omega)); intro A2 e2 w2' own2 hg2 at2))
    all_goals (have hH := (‹Below wb.heap.size wb w2' ∧ _›).1; go_wp2_with fail; go_meet; exact ⟨_, _, rfl, own2, hH⟩)
  obtain ⟨A2, e2, rfl, own2, hb7⟩ := hcut
  have q1 := own2.sl eT_ok
  clear own2 x0 x1 x2 hs1
  replace r0 := kcell hb7 r0
  replace r1 := kcell hb7 r1
  replace hB := bstep hB (Nat.le_refl _) hb7
  clear hb7
  have hz1 := hz.keep hB
  have hBs := hB.size
  have own0 := Own.empty (enc := eI) (sz := 1) wc (base := wc.heap.size) 3 (Nat.le_refl _)
  go_wp2_with (first | (at_builtin; refine wpList_append_sl _ rfl _ _ rfl elI eI_ok own0 (n := 0) rfl rfl (m := s.length) rfl (ys := s) rfl (hz1.alloc _) (by simp only [maxLen]; omega) (by omega) (by simp) _ rfl s.length (by simp) ?_; intro O e3 w4 own1 hg4 at4; simp only [List.nil_append] at own1; (have hB8 : Below wc.heap.size wc w4 := bgrow (below1 wc _) hg4 (ge_at (Nat.le_refl _))); clear hg4 at4 own0 hz1))
  go_loopw [15] (fun v wo => ∃ (k : Nat) (O : Option Addr) (d : Nat), s.length ≤ k ∧ k ≤ l.length ∧ v = .slice O k d ∧ Own eI 1 wo wc.heap.size 3 O d (s ++ List.replicate (k - s.length) 0) ∧ Below wc.heap.size wc wo) (fun v _ => l.length - sliceLen v)
  case atStart => exact ⟨s.length, O, e3, Nat.le_refl _, HSL.out, rfl, by rw [Nat.sub_self, List.replicate_zero, List.append_nil]; exact own1, hB8⟩
  case round =>
    clear own1 hB8
    obtain ⟨k, O, d, hk0, hk, rfl, own, hB8⟩ := hrel
    obtain ⟨HN, HN1, HN2⟩ := (⟨sec_n hk0 0, sec_n1 hk0 0, sec_nx x⟩ : Hid ((s ++ List.replicate (k - s.length) 0).length = k) ∧ Hid (s ++ List.replicate (k - s.length) 0 ++ [0] = s ++ List.replicate (k + 1 - s.length) 0) ∧ (k = l.length → Hid (s ++ List.replicate (k - s.length) 0 ++ [x] = secL s l.length x)))
    have hg8 : wc.heap.size ≤ wr.heap.size := hB8.size
    generalize s ++ List.replicate (k - s.length) 0 = xs at *
    by_cases hlt : k < l.length
    · have hlt' : (k : Int) < (l.length : Int) := by omega
      go_wp2_with (first | (at_builtin; refine wpList_append_sl _ rfl _ _ rfl elI eI_ok (own.alloc _) (n := k) HN.out rfl (m := 1) rfl (ys := [0]) rfl (Sl.new eI_ok wr _ _ rfl _) (by simp only [maxLen]; omega) (by omega) (by simp; omega) _ rfl (k + 1) rfl ?_; intro O2 e5 w5 own5 hg5 at5; (have hB9 : Below wc.heap.size wc w5 := bgrow (hB8.alloc hB8.size _) hg5 (fun q hq => (own.lt q hq).1)); rw [HN1.out] at own5; clear hg5 at5 own))
      go_roundw
      case rel => exact ⟨k + 1, O2, e5, by omega, by omega, rfl, own5, hB9⟩
      case measure => simp [sliceLen]; omega
    · obtain rfl : k = l.length := by omega
      replace HN2 := HN2 rfl
      have HL := HL12.out.1
      clear hlt hk hk0 HN1
      have HQ := Lib.hid (fun O d W => right_w A2 e2 O d b p W (l := l) (t := t) (s := s) (x := x) HL HSL.out)
      have hGo := hG.out
      unfold keepsB at hGo
      have hsx : IntKind.i64.wrap x = x ∨ True := .inr trivial
      clear hsx
      cases hr : rightF (l ++ [t]) (secL s l.length x) b p
      · rw [hr] at HQ hGo
        obtain rfl : G = false := hGo.symm
        clear hG hGo
        go_wp2_with (first | (at_builtin; refine wpList_append_sl _ rfl _ _ rfl elI eI_ok (own.alloc _) (n := l.length) HN.out rfl (m := 1) rfl (ys := [x]) rfl (Sl.new eI_ok wr _ _ rfl _) (by simp only [maxLen]; omega) (by omega) (by simp; omega) _ rfl (l.length + 1) rfl ?_; intro O2 e5 w5 own5 hg5 at5; rw [HN2.out] at own5; (have q2 := own5.sl eI_ok); (have hB9 : Below wc.heap.size wc w5 := bgrow (hB8.alloc hB8.size _) hg5 (fun q hq => (own.lt q hq).1)); clear hB8; (have hB8 := hB9); replace q1 := q1.keep hB9; replace r0 := kcell hB9 r0; replace r1 := kcell hB9 r1; clear hB9 hg5 at5 own own5) | (go_at_call 11; (with_reducible refine (HQ.out _ _ _ q1 q2).mono ?_); rintro e w5 ⟨rfl, hb⟩; replace hB8 := bstep hB8 (Nat.le_refl _) hb; replace q1 := q1.keep hb; replace q2 := q2.keep hb; replace r0 := kcell hb r0; replace r1 := kcell hb r1; clear hb) | (go_at_call 8; (with_reducible refine (awake_any _).mono ?_); rintro e w5 ⟨rfl, hb⟩; replace hB8 := bstep hB8 (Nat.le_refl _) hb; replace q1 := q1.keep hb; replace q2 := q2.keep hb; replace r0 := kcell hb r0; replace r1 := kcell hb r1; clear hb))
        go_ret
        exact ⟨rfl, bstep hB (Nat.le_refl _) hB8⟩
      · rw [hr] at HQ hGo
        have H := rightF_t hr
        by_cases h0 : n < 0
        · have hst : strT n = false := decide_eq_false (by omega)
          rw [hst] at hGo
          obtain rfl : G = false := hGo.symm
          clear hG hGo H hr
          go_wp2_with (first | (at_builtin; refine wpList_append_sl _ rfl _ _ rfl elI eI_ok (own.alloc _) (n := l.length) HN.out rfl (m := 1) rfl (ys := [x]) rfl (Sl.new eI_ok wr _ _ rfl _) (by simp only [maxLen]; omega) (by omega) (by simp; omega) _ rfl (l.length + 1) rfl ?_; intro O2 e5 w5 own5 hg5 at5; rw [HN2.out] at own5; (have q2 := own5.sl eI_ok); (have hB9 : Below wc.heap.size wc w5 := bgrow (hB8.alloc hB8.size _) hg5 (fun q hq => (own.lt q hq).1)); clear hB8; (have hB8 := hB9); replace q1 := q1.keep hB9; replace r0 := kcell hB9 r0; replace r1 := kcell hB9 r1; clear hB9 hg5 at5 own own5) | (go_at_call 11; (with_reducible refine (HQ.out _ _ _ q1 q2).mono ?_); rintro e w5 ⟨rfl, hb⟩; replace hB8 := bstep hB8 (Nat.le_refl _) hb; replace q1 := q1.keep hb; replace q2 := q2.keep hb; replace r0 := kcell hb r0; replace r1 := kcell hb r1; clear hb) | (go_at_call 8; (with_reducible refine (awake_any _).mono ?_); rintro e w5 ⟨rfl, hb⟩; replace hB8 := bstep hB8 (Nat.le_refl _) hb; replace q1 := q1.keep hb; replace q2 := q2.keep hb; replace r0 := kcell hb r0; replace r1 := kcell hb r1; clear hb))
          go_ret
          exact ⟨rfl, bstep hB (Nat.le_refl _) hB8⟩
        by_cases h1 : 1048576 < n
        · have hst : strT n = false := decide_eq_false (by omega)
          rw [hst] at hGo
          obtain rfl : G = false := hGo.symm
          clear hG hGo H hr
          go_wp2_with (first | (at_builtin; refine wpList_append_sl _ rfl _ _ rfl elI eI_ok (own.alloc _) (n := l.length) HN.out rfl (m := 1) rfl (ys := [x]) rfl (Sl.new eI_ok wr _ _ rfl _) (by simp only [maxLen]; omega) (by omega) (by simp; omega) _ rfl (l.length + 1) rfl ?_; intro O2 e5 w5 own5 hg5 at5; rw [HN2.out] at own5; (have q2 := own5.sl eI_ok); (have hB9 : Below wc.heap.size wc w5 := bgrow (hB8.alloc hB8.size _) hg5 (fun q hq => (own.lt q hq).1)); clear hB8; (have hB8 := hB9); replace q1 := q1.keep hB9; replace r0 := kcell hB9 r0; replace r1 := kcell hB9 r1; clear hB9 hg5 at5 own own5) | (go_at_call 11; (with_reducible refine (HQ.out _ _ _ q1 q2).mono ?_); rintro e w5 ⟨rfl, hb⟩; replace hB8 := bstep hB8 (Nat.le_refl _) hb; replace q1 := q1.keep hb; replace q2 := q2.keep hb; replace r0 := kcell hb r0; replace r1 := kcell hb r1; clear hb) | (go_at_call 8; (with_reducible refine (awake_any _).mono ?_); rintro e w5 ⟨rfl, hb⟩; replace hB8 := bstep hB8 (Nat.le_refl _) hb; replace q1 := q1.keep hb; replace q2 := q2.keep hb; replace r0 := kcell hb r0; replace r1 := kcell hb r1; clear hb))
          go_ret
          exact ⟨rfl, bstep hB (Nat.le_refl _) hB8⟩
        have hst : strT n = true := decide_eq_true (by omega)
        obtain ⟨u, rfl⟩ := Int.eq_ofNat_of_zero_le (show 0 ≤ n by omega)
        have hu : u ≤ 1048576 := by omega
        rw [hst, Int.toNat_natCast] at hGo
        have HG := Lib.hid (fun O d W => first_w A2 e2 O d u W HL HSL.out H hu)
        have HX := Lib.hid (fun y hy => first_in (allT_mem H.all) (s := secL s l.length x) (b := b) (p := p) (u := u) (by omega) (x := y) hy)
        have hu0 : (0 : Int) ≤ (u : Int) := by omega
        have hu1 : (u : Int) ≤ 1048576 := by omega
        clear H hr hst h0 h1 hG
        generalize firstV (l ++ [t]) (secL s l.length x) b p u = o at *
        cases o with
        | none =>
          obtain rfl : G = true := hGo.symm
          simp only [Option.getD_none] at HG
          clear hGo
          go_wp2_with (first | (at_builtin; refine wpList_append_sl _ rfl _ _ rfl elI eI_ok (own.alloc _) (n := l.length) HN.out rfl (m := 1) rfl (ys := [x]) rfl (Sl.new eI_ok wr _ _ rfl _) (by simp only [maxLen]; omega) (by omega) (by simp; omega) _ rfl (l.length + 1) rfl ?_; intro O2 e5 w5 own5 hg5 at5; rw [HN2.out] at own5; (have q2 := own5.sl eI_ok); (have hB9 : Below wc.heap.size wc w5 := bgrow (hB8.alloc hB8.size _) hg5 (fun q hq => (own.lt q hq).1)); clear hB8; (have hB8 := hB9); replace q1 := q1.keep hB9; replace r0 := kcell hB9 r0; replace r1 := kcell hB9 r1; clear hB9 hg5 at5 own own5) | (go_at_call 11; (with_reducible refine (HQ.out _ _ _ q1 q2).mono ?_); rintro e w5 ⟨rfl, hb⟩; replace hB8 := bstep hB8 (Nat.le_refl _) hb; replace q1 := q1.keep hb; replace q2 := q2.keep hb; replace r0 := kcell hb r0; replace r1 := kcell hb r1; clear hb) | (go_at_call 14; (with_reducible refine (HG.out _ _ _ q1 q2).mono ?_); rintro e w5 ⟨rfl, hb⟩; replace hB8 := bstep hB8 (Nat.le_refl _) hb; replace q1 := q1.keep hb; replace q2 := q2.keep hb; replace r0 := kcell hb r0; replace r1 := kcell hb r1; clear hb) | (go_at_call 8; (with_reducible refine (awake_any _).mono ?_); rintro e w5 ⟨rfl, hb⟩; replace hB8 := bstep hB8 (Nat.le_refl _) hb; replace q1 := q1.keep hb; replace q2 := q2.keep hb; replace r0 := kcell hb r0; replace r1 := kcell hb r1; clear hb))
          go_ret
          exact ⟨rfl, bstep hB (Nat.le_refl _) hB8⟩
        | some y =>
          obtain rfl : G = false := hGo.symm
          have hy := HX.out y rfl
          have hy0 : ¬ y < 0 := by omega
          simp only [Option.getD_some] at HG
          clear hGo HX
          go_wp2_with (first | (at_builtin; refine wpList_append_sl _ rfl _ _ rfl elI eI_ok (own.alloc _) (n := l.length) HN.out rfl (m := 1) rfl (ys := [x]) rfl (Sl.new eI_ok wr _ _ rfl _) (by simp only [maxLen]; omega) (by omega) (by simp; omega) _ rfl (l.length + 1) rfl ?_; intro O2 e5 w5 own5 hg5 at5; rw [HN2.out] at own5; (have q2 := own5.sl eI_ok); (have hB9 : Below wc.heap.size wc w5 := bgrow (hB8.alloc hB8.size _) hg5 (fun q hq => (own.lt q hq).1)); clear hB8; (have hB8 := hB9); replace q1 := q1.keep hB9; replace r0 := kcell hB9 r0; replace r1 := kcell hB9 r1; clear hB9 hg5 at5 own own5) | (go_at_call 11; (with_reducible refine (HQ.out _ _ _ q1 q2).mono ?_); rintro e w5 ⟨rfl, hb⟩; replace hB8 := bstep hB8 (Nat.le_refl _) hb; replace q1 := q1.keep hb; replace q2 := q2.keep hb; replace r0 := kcell hb r0; replace r1 := kcell hb r1; clear hb) | (go_at_call 14; (with_reducible refine (HG.out _ _ _ q1 q2).mono ?_); rintro e w5 ⟨rfl, hb⟩; replace hB8 := bstep hB8 (Nat.le_refl _) hb; replace q1 := q1.keep hb; replace q2 := q2.keep hb; replace r0 := kcell hb r0; replace r1 := kcell hb r1; clear hb) | (go_at_call 8; (with_reducible refine (awake_any _).mono ?_); rintro e w5 ⟨rfl, hb⟩; replace hB8 := bstep hB8 (Nat.le_refl _) hb; replace q1 := q1.keep hb; replace q2 := q2.keep hb; replace r0 := kcell hb r0; replace r1 := kcell hb r1; clear hb))
          go_ret
          refine ⟨?_, bstep hB (Nat.le_refl _) hB8⟩
          show Ending.returned (.bool (!decide (y < 0))) = _
          rw [decide_eq_false (show ¬ y < 0 by omega)]
          rfl

end Go.Proofs.Ytojccjdldmjfgaa
