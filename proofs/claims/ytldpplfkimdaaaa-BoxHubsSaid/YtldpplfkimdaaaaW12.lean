/- Walks: a Put, a Take or a Shut, done to both. -/
import Derived.Test.YtldpplfkimdaaaaW11
import Derived.Test.YtldpplfkimdaaaaW4
import Derived.Test.YtldpplfkimdaaaaPut
namespace Go.Proofs.Ytldpplfkimdaaaa
open Go.RowKit Go.Conc

/-- a box (blocks g and g + 1) and one element of a row have turned -/
structure Dn (a w : World) (g q o : Nat) (L : List Value) : Prop where
  os : w.os = a.os
  tape : w.tape = a.tape
  output : w.output = a.output
  size : a.heap.size ≤ w.heap.size
  block : ∀ i, i < a.heap.size → i ≠ g → i ≠ g + 1 → w.heap[i]? = (a.setCells q o L).heap[i]?
theorem setCells_at (q : Nat) : ∀ (L : List Value) (o i : Nat) (w v : World), w.heap[i]? = v.heap[i]? → (w.setCells q o L).heap[i]? = (v.setCells q o L).heap[i]?
  | [], _, _, _, _, h => h
  | x :: L, o, i, w, v, h => by
    unfold World.setCells
    refine setCells_at q L (o + 1) i _ _ ?_
    simp only [World.setCell, Array.getElem?_modify, h]
theorem setCells_same (q o : Nat) (L : List Value) (w : World) : (w.setCells q o L).os = w.os ∧ (w.setCells q o L).tape = w.tape ∧ (w.setCells q o L).output = w.output := by
  have := grown_setCells q L o w w (only_refl w q)
  exact ⟨this.os, this.tape, this.output⟩
theorem Dn.mk' {a w1 w2 : World} {g q o : Nat} {L : List Value} (h : Ch a w1 g) (hz : w2 = w1.setCells q o L) : Dn a w2 g q o L := by
  subst hz
  obtain ⟨h1, h2, h3⟩ := setCells_same q o L w1
  exact ⟨h1.trans h.os, h2.trans h.tape, h3.trans h.output, by rw [size_setCells]; exact h.size, fun i hi n1 n2 => setCells_at q L o i w1 a (h.block i hi n1 n2)⟩
theorem Dn.below {a w w' : World} {g q o : Nat} {L : List Value} (h : Dn a w g q o L) (hb : Below w.heap.size w w') : Dn a w' g q o L :=
  ⟨hb.os.trans h.os, hb.tape.trans h.tape, hb.output.trans h.output, Nat.le_trans h.size hb.size, fun i hi n1 n2 => (hb.block i (Nat.lt_of_lt_of_le hi h.size)).trans (h.block i hi n1 n2)⟩
theorem Dn.ch {a w w' : World} {g q o : Nat} {L : List Value} (h : Dn a w g q o L) (hb : Ch w w' g) : Dn a w' g q o L :=
  ⟨hb.os.trans h.os, hb.tape.trans h.tape, hb.output.trans h.output, Nat.le_trans h.size hb.size, fun i hi n1 n2 => (hb.block i (Nat.lt_of_lt_of_le hi h.size) n1 n2).trans (h.block i hi n1 n2)⟩

theorem Ch.low' {a w w' : World} {g : Nat} (h : Ch a w g) (hb : Below w.heap.size w w') : Ch a w' g := h.trans (Ch.of_below hb)

/-- where a document's box stands in memory -/
structure At (w : World) (q o : Nat) (x : RbS) : Prop where
  c0 : w.cell? ⟨q, o, none⟩ = some (.slice x.a x.b.l.length x.c)
  c1 : w.cell? ⟨q, o + 1, none⟩ = some (.int .i64 x.b.room)
  c2 : w.cell? ⟨q, o + 1 + 1, none⟩ = some (.bool x.b.shut)
  f0 : w.frozen? ⟨q, o, none⟩ = false
  f1 : w.frozen? ⟨q, o + 1, none⟩ = false
  f2 : w.frozen? ⟨q, o + 1 + 1, none⟩ = false
theorem At.lt {w : World} {q o : Nat} {x : RbS} (h : At w q o x) : q < w.heap.size := World.block_lt_of_cell? w _ h.c0
theorem At.block {w w' : World} {q o : Nat} {x : RbS} (h : At w q o x) (hb : w'.heap[q]? = w.heap[q]?) : At w' q o x := by
  have hc : ∀ i, w'.cell? ⟨q, i, none⟩ = w.cell? ⟨q, i, none⟩ := fun i => by rw [World.cell?_of_block (w := w) hb]
  have hf : ∀ i, w'.frozen? ⟨q, i, none⟩ = w.frozen? ⟨q, i, none⟩ := fun i => by simp [World.frozen?, hb]
  exact ⟨(hc _).trans h.c0, (hc _).trans h.c1, (hc _).trans h.c2, (hf _).trans h.f0, (hf _).trans h.f1, (hf _).trans h.f2⟩
theorem At.keep {w w' : World} {q o : Nat} {x : RbS} (h : At w q o x) (hb : Below w.heap.size w w') : At w' q o x := h.block (hb.block q h.lt)
theorem At.ch {w w' : World} {q o g : Nat} {x : RbS} (h : At w q o x) (hb : Ch w w' g) (h1 : q ≠ g) (h2 : q ≠ g + 1) : At w' q o x := h.block (hb.block q h.lt h1 h2)
theorem RbOk.ch {w w' : World} {g : Nat} {x : RbS} (h : RbOk w x) (hb : Ch w w' g) (hn : ∀ k, blk x.a = some k → k ≠ g ∧ k ≠ g + 1) : RbOk w' x :=
  h.kp (F := fun b => b < w.heap.size ∧ b ≠ g ∧ b ≠ g + 1) ⟨hb.os, hb.tape, hb.output, hb.size, fun i hi => hb.block i hi.1 hi.2.1 hi.2.2⟩ (fun k hk => ⟨h.lt k hk, hn k hk⟩)

theorem kp_cells (q o : Nat) (L : List Value) (w : World) : Kp (fun b => b < w.heap.size ∧ b ≠ q) w (w.setCells q o L) := Kp.grown (grown_setCells q L o w w (only_refl w q)) (fun _ hb => ⟨hb.1, fun e => hb.2 (by injection e)⟩)
theorem Bx.kp {F : Nat → Prop} {w w' : World} {g : Nat} {b : BoxS} (h : Bx w g b) (hk : Kp F w w') (h1 : F g) (h2 : F (g + 1)) : Bx w' g b := by
  obtain ⟨⟨s, r, hx⟩, hy⟩ := h
  exact ⟨⟨s, r, (hk.block g h1).trans hx⟩, hk.blk hy h2⟩
set_option maxRecDepth 100000 in
set_option maxHeartbeats 4000000 in
theorem does_take (x : RbS) (g q o : Nat) (a : ActS) (w : World) (hk : a.kind = 1) (hb : Bx w g x.b) (hx : RbOk w x) (hat : At w q o x) (hq : q ≠ g ∧ q ≠ g + 1) (hA : ∀ k, blk x.a = some k → k ≠ g ∧ k ≠ g + 1) (hqx : blk x.a ≠ some q) :
    Calls Try.prog 13 #[.pointer (some ⟨g + 1, 0, none⟩), .pointer (some ⟨q, o, none⟩), .agg #[.int .i64 a.kind, .int .i64 a.at_, .int .i64 a.to, .int .i64 a.n, .int .u64 a.w]] w fun e w' =>
      e = .returned (.bool true) ∧ ∃ x' : RbS, x'.b = takeB x.b ∧ Bx w' g x'.b ∧ RbOk w' x' ∧ NewOr w x.a x'.a ∧ Dn w w' g q o (eRb x') := by
  have hB0 : Below w.heap.size w ((w.alloc (Obj.cells #[.int .i64 a.kind, .int .i64 a.at_, .int .i64 a.to, .int .i64 a.n, .int .u64 a.w] 30)).alloc (Obj.cells #[.int .i64 a.n, .int .u64 a.w] 59)) := (below1 _ _).alloc (by simp) _
  have e1 : (a.kind == 1) = true := by simp [hk]
  clear hk
  go_enter Try.func13, Try.ntmps13
  go_wp2_with fail
  refine (take_any x.b g _ (hb.keep hB0)).mono ?_
  rintro e w1 ⟨rfl, hb1, hc1⟩
  have hC1 := (Ch.of_below (g := g) hB0).trans hc1
  have hx1 := hx.ch hC1 hA
  have at1 := hat.ch hC1 hq.1 hq.2
  have hs1 := hC1.size
  have hql := hat.lt
  clear hc1 hB0 hb hx hat
  have y0 := Blk.new w1 32 #[.int .i64 (takeL x.b).from_, .int .u64 (takeL x.b).word]
  replace hb1 := hb1.alloc (Obj.cells #[.int .i64 (takeL x.b).from_, .int .u64 (takeL x.b).word] 32)
  replace hx1 := hx1.keep (below1 w1 (Obj.cells #[.int .i64 (takeL x.b).from_, .int .u64 (takeL x.b).word] 32))
  replace at1 := at1.keep (below1 w1 (Obj.cells #[.int .i64 (takeL x.b).from_, .int .u64 (takeL x.b).word] 32))
  replace hC1 := hC1.alloc (Obj.cells #[.int .i64 (takeL x.b).from_, .int .u64 (takeL x.b).word] 32)
  obtain ⟨c0, c1, c2⟩ : _ ∧ _ ∧ _ := ⟨at1.c0, at1.c1, at1.c2⟩
  go_wp2_with fail
  refine (rtake_any x _ hx1).mono ?_
  rintro e w2 ⟨x', rfl, hxb, hx2, hnew, hbl⟩
  replace hb1 := hb1.keep hbl
  replace at1 := at1.keep hbl
  replace hC1 := hC1.low' hbl
  replace y0 := y0.keep hbl
  have HXB := Lib.hid hxb
  clear hxb
  have hnew' : NewOr w x.a x'.a := hnew.imp id (fun h q hq => Nat.le_trans hs1 (Nat.le_trans (by simp) (h q hq)))
  have hs2 : w1.heap.size ≤ w2.heap.size := Nat.le_trans (by simp) (Below.size hbl)
  clear hbl c0 c1 c2 hx1 hnew
  have z0 := (Blk.new w2 43 #[.slice x'.a x'.b.l.length x'.c, .int .i64 x'.b.room, .bool x'.b.shut]).alloc (Obj.cells #[.int .i64 (takeL x.b).from_, .int .u64 (takeL x.b).word] 59)
  have z1 := Blk.new' (w2.alloc (Obj.cells #[.slice x'.a x'.b.l.length x'.c, .int .i64 x'.b.room, .bool x'.b.shut] 43)) 59 #[.int .i64 (takeL x.b).from_, .int .u64 (takeL x.b).word] (g := w2.heap.size + 1) (by simp)
  have hb9 : Below w2.heap.size w2 ((w2.alloc (Obj.cells #[.slice x'.a x'.b.l.length x'.c, .int .i64 x'.b.room, .bool x'.b.shut] 43)).alloc (Obj.cells #[.int .i64 (takeL x.b).from_, .int .u64 (takeL x.b).word] 59)) := (below1 _ _).alloc (by simp) _
  replace hb1 := hb1.keep hb9
  replace at1 := at1.keep hb9
  replace hC1 := hC1.low' hb9
  replace hx2 := hx2.keep hb9
  replace y0 := y0.keep hb9
  clear hb9
  obtain ⟨c0, c1, c2⟩ : _ ∧ _ ∧ _ := ⟨at1.c0, at1.c1, at1.c2⟩
  obtain ⟨f0, f1, f2⟩ : _ ∧ _ ∧ _ := ⟨at1.f0, at1.f1, at1.f2⟩
  go_wp2_with fail
  have hqw : q < w.heap.size := hql
  have hqne : blk x'.a ≠ some q := by
    rcases hnew' with h | h
    · rw [h]; exact hqx
    · intro e; have := h q e; omega
  have hD : Dn w (((((w2.alloc (Obj.cells #[.slice x'.a x'.b.l.length x'.c, .int .i64 x'.b.room, .bool x'.b.shut] 43)).alloc (Obj.cells #[.int .i64 (takeL x.b).from_, .int .u64 (takeL x.b).word] 59)).setCell ⟨q, o, none⟩ (.slice x'.a x'.b.l.length x'.c)).setCell ⟨q, o + 1, none⟩ (.int .i64 x'.b.room)).setCell ⟨q, o + 2, none⟩ (.bool x'.b.shut)) g q o (eRb x') := Dn.mk' hC1 rfl
  have hK := kp_cells q o (eRb x') ((w2.alloc (Obj.cells #[.slice x'.a x'.b.l.length x'.c, .int .i64 x'.b.room, .bool x'.b.shut] 43)).alloc (Obj.cells #[.int .i64 (takeL x.b).from_, .int .u64 (takeL x.b).word] 59))
  have y1 := hK.blk y0 ⟨y0.lt, by omega⟩
  have z2 := hK.blk z1 ⟨z1.lt, by omega⟩
  have hb3 := hb1.kp hK ⟨hb1.1.lt, Ne.symm hq.1⟩ ⟨hb1.2.lt, Ne.symm hq.2⟩
  have hx3 := hx2.kp hK (fun k hk => ⟨hx2.lt k hk, fun e => hqne (e ▸ hk)⟩)
  change Kp _ _ (((((w2.alloc (Obj.cells #[.slice x'.a x'.b.l.length x'.c, .int .i64 x'.b.room, .bool x'.b.shut] 43)).alloc (Obj.cells #[.int .i64 (takeL x.b).from_, .int .u64 (takeL x.b).word] 59)).setCell ⟨q, o, none⟩ (.slice x'.a x'.b.l.length x'.c)).setCell ⟨q, o + 1, none⟩ (.int .i64 x'.b.room)).setCell ⟨q, o + 2, none⟩ (.bool x'.b.shut)) at hK
  change Blk (((((w2.alloc (Obj.cells #[.slice x'.a x'.b.l.length x'.c, .int .i64 x'.b.room, .bool x'.b.shut] 43)).alloc (Obj.cells #[.int .i64 (takeL x.b).from_, .int .u64 (takeL x.b).word] 59)).setCell ⟨q, o, none⟩ (.slice x'.a x'.b.l.length x'.c)).setCell ⟨q, o + 1, none⟩ (.int .i64 x'.b.room)).setCell ⟨q, o + 2, none⟩ (.bool x'.b.shut)) _ _ _ at y1 z2
  change Bx (((((w2.alloc (Obj.cells #[.slice x'.a x'.b.l.length x'.c, .int .i64 x'.b.room, .bool x'.b.shut] 43)).alloc (Obj.cells #[.int .i64 (takeL x.b).from_, .int .u64 (takeL x.b).word] 59)).setCell ⟨q, o, none⟩ (.slice x'.a x'.b.l.length x'.c)).setCell ⟨q, o + 1, none⟩ (.int .i64 x'.b.room)).setCell ⟨q, o + 2, none⟩ (.bool x'.b.shut)) _ _ at hb3
  change RbOk (((((w2.alloc (Obj.cells #[.slice x'.a x'.b.l.length x'.c, .int .i64 x'.b.room, .bool x'.b.shut] 43)).alloc (Obj.cells #[.int .i64 (takeL x.b).from_, .int .u64 (takeL x.b).word] 59)).setCell ⟨q, o, none⟩ (.slice x'.a x'.b.l.length x'.c)).setCell ⟨q, o + 1, none⟩ (.int .i64 x'.b.room)).setCell ⟨q, o + 2, none⟩ (.bool x'.b.shut)) _ at hx3
  clear hK c0 c1 c2 f0 f1 f2 at1 hb1 hC1 hx2 y0 z0 z1
  generalize ((((w2.alloc (Obj.cells #[.slice x'.a x'.b.l.length x'.c, .int .i64 x'.b.room, .bool x'.b.shut] 43)).alloc (Obj.cells #[.int .i64 (takeL x.b).from_, .int .u64 (takeL x.b).word] 59)).setCell ⟨q, o, none⟩ (.slice x'.a x'.b.l.length x'.c)).setCell ⟨q, o + 1, none⟩ (.int .i64 x'.b.room)).setCell ⟨q, o + 2, none⟩ (.bool x'.b.shut) = w3 at *
  have d0 := y1.cell 0 (.int .i64 (takeL x.b).from_) rfl
  have d1 := y1.cell 1 (.int .u64 (takeL x.b).word) rfl
  have e0 := z2.cell 0 (.int .i64 (takeL x.b).from_) rfl
  have e3 := z2.cell 1 (.int .u64 (takeL x.b).word) rfl
  generalize takeL x.b = tl at *
  generalize takeE x.b = te at *
  have hto := fun W => Lib.hid (to_any tl W)
  (have aft_d0 := Aft.cell d0; have aft_d1 := Aft.cell d1; have aft_e0 := Aft.cell e0; have aft_e3 := Aft.cell e3; refine wp_region_aft (by kernel_rfl) (by kernel_rfl) ?_; (repeat (go_big_quiet_step ((go_at_call 22; with_reducible exact aft_call (hto _).out)))); refine wpQuiet_nil ?_; clear aft_d0 aft_d1 aft_e0 aft_e3; intro w4 hw2_; have hb4 := Aft.below hw2_; clear hw2_)
  go_wp2_with fail
  go_ret
  exact ⟨rfl, x', HXB.out, HXB.out ▸ hb3.keep hb4, hx3.keep hb4, hnew', hD.below hb4⟩
end Go.Proofs.Ytldpplfkimdaaaa
