/- Walks: Put, Take, Shut, Len of boxes. -/
import Derived.Test.YtldpplfkimdaaaaW1
namespace Go.Proofs.Ytldpplfkimdaaaa
open Go.RowKit Go.Conc

def putE (b : BoxS) : Int := if b.shut then 25 else if b.room ≤ b.l.length then 20 else 0
def putB (b : BoxS) (x : Lt) : BoxS := if b.shut then b else if b.room ≤ b.l.length then b else ⟨b.l ++ [x], b.room, b.shut⟩

theorem Blk.chan {w : World} {g q : Nat} {t : TypeId} {cs : Array Value} (h : Blk w q t cs) (hq : q ≠ g) (cap : Nat) (buf : Array Value) (cl : Bool) (s r : Nat) (tm : Bool) : Blk (w.setChan g cap buf cl s r tm) q t cs := by
  unfold Blk at h ⊢
  simp only [World.setChan]
  rw [Array.getElem?_setIfInBounds_ne (Ne.symm hq)]
  exact h
theorem Bx.chan {w : World} {g : Nat} {b : BoxS} (h : Bx w g b) (l : List Lt) (s r : Nat) : Bx (w.setChan g b.room (bufA l) b.shut s r false) g ⟨l, b.room, b.shut⟩ :=
  ⟨⟨s, r, heap_setChan w g _ _ _ _ _ _ h.1.lt⟩, Blk.chan h.2 (by omega) _ _ _ _ _ _⟩

theorem Bx.low {w w' : World} {g B : Nat} {b : BoxS} (h : Bx w g b) (hb : Below B w w') (hg : g + 1 < B) : Bx w' g b := by
  obtain ⟨⟨s, r, hx⟩, hy⟩ := h
  exact ⟨⟨s, r, (hb.block g (by omega)).trans hx⟩, (hb.block (g + 1) hg).trans hy⟩
theorem Ch.low {a w w' : World} {g : Nat} (h : Ch a w g) (hb : Below a.heap.size w w') : Ch a w' g :=
  ⟨hb.os.trans h.os, hb.tape.trans h.tape, hb.output.trans h.output, Nat.le_trans h.size hb.size, fun i hi h1 h2 => (hb.block i hi).trans (h.block i hi h1 h2)⟩

set_option maxHeartbeats 1000000 in
theorem put_shut (b : BoxS) (x : Lt) (g : Nat) (w : World) (hb : Bx w g b) (hs : b.shut = true) :
    Calls Try.prog 10 #[.pointer (some ⟨g + 1, 0, none⟩), .agg #[.int .i64 x.from_, .int .u64 x.word]] w fun e w' => e = .returned (.int .i64 25) ∧ Bx w' g b ∧ Ch w w' g := by
  have hB := Lib.hid (hb.alloc (Obj.cells #[.int .i64 x.from_, .int .u64 x.word] 32))
  have c2 := hB.out.2.cell 2 (.bool b.shut) rfl
  rw [hs] at c2
  go_enter Try.func10, Try.ntmps10
  go_wp2_with (go_at_call 28; (with_reducible refine (made_yes b g _ hB.out).mono ?_); rintro e w2 ⟨rfl, rfl⟩)
  go_ret
  exact ⟨rfl, hB.out, Ch.of_below (below1 _ _)⟩

set_option maxHeartbeats 2000000 in
theorem put_open (b : BoxS) (x : Lt) (g : Nat) (w : World) (hb : Bx w g b) (hs : b.shut = false) (hr : b.l.length < b.room) :
    Calls Try.prog 10 #[.pointer (some ⟨g + 1, 0, none⟩), .agg #[.int .i64 x.from_, .int .u64 x.word]] w fun e w' => e = .returned (.int .i64 0) ∧ Bx w' g ⟨b.l ++ [x], b.room, b.shut⟩ ∧ Ch w w' g := by
  have hB := Lib.hid (hb.alloc (Obj.cells #[.int .i64 x.from_, .int .u64 x.word] 32))
  have c2 := hB.out.2.cell 2 (.bool b.shut) rfl
  have c0 := hB.out.2.cell 0 (.chan (some g)) rfl
  have d0 := (Blk.new w 32 #[.int .i64 x.from_, .int .u64 x.word]).cell 0 (.int .i64 x.from_) rfl
  have d1 := (Blk.new w 32 #[.int .i64 x.from_, .int .u64 x.word]).cell 1 (.int .u64 x.word) rfl
  obtain ⟨s, r, hc⟩ := hB.out.1
  have HC := Lib.hid hc
  clear hc
  rw [hs] at c2
  refine calls_of_wpN Try.func10 rfl ?_
  simp only [Try.ntmps10, List.size_toArray, List.length_cons, List.length_nil, Nat.reduceAdd, Nat.reduceSub, Array.replicate_succ, Array.replicate_zero, List.push_toArray, List.append_toArray, List.nil_append, List.cons_append]
  refine wpN_seq (fun K hK => ?_)
  go_wp2
  refine wpN_seq (fun K hK => ?_)
  go_wp2_with (go_at_call 28; (with_reducible refine (made_yes b g _ hB.out).mono ?_); rintro e w2 ⟨rfl, rfl⟩)
  refine wpN_seq (fun K hK => ?_)
  go_wp2
  refine wpN_seq (fun K hK => ?_)
  go_wp2
  refine wpN_seq' ?_
  refine sel_send_room (c := g) (v := ltV x) (z := .agg #[.int .i64 0, .int .u64 0]) (cap := b.room) (buf := bufA b.l) (s := s) (r := r) rfl (by simp [go_sem, execOp, scase, Act.eval, ltV]) (by have := HC.out; rw [hs] at this; exact this) (by rw [bufA_size]; exact hr) ?_
  simp only [Act.put, List.setIfInBounds_toArray, List.set_cons_zero, List.set_cons_succ]
  go_wp2
  go_ret
  refine ⟨rfl, ?_, (Ch.of_below (below1 _ _)).setChan _ _ _ _ _ _⟩
  have := hB.out.chan (b.l ++ [x]) (s + 1) r
  rw [hs] at this ⊢
  rw [bufA_push]
  exact this

set_option maxHeartbeats 2000000 in
theorem put_full (b : BoxS) (x : Lt) (g : Nat) (w : World) (hb : Bx w g b) (hs : b.shut = false) (hr : b.room ≤ b.l.length) :
    Calls Try.prog 10 #[.pointer (some ⟨g + 1, 0, none⟩), .agg #[.int .i64 x.from_, .int .u64 x.word]] w fun e w' => e = .returned (.int .i64 20) ∧ Bx w' g b ∧ Ch w w' g := by
  have hB := Lib.hid (hb.alloc (Obj.cells #[.int .i64 x.from_, .int .u64 x.word] 32))
  have c2 := hB.out.2.cell 2 (.bool b.shut) rfl
  have c0 := hB.out.2.cell 0 (.chan (some g)) rfl
  have d0 := (Blk.new w 32 #[.int .i64 x.from_, .int .u64 x.word]).cell 0 (.int .i64 x.from_) rfl
  have d1 := (Blk.new w 32 #[.int .i64 x.from_, .int .u64 x.word]).cell 1 (.int .u64 x.word) rfl
  obtain ⟨s, r, hc⟩ := hB.out.1
  have HC := Lib.hid hc
  clear hc
  rw [hs] at c2
  refine calls_of_wpN Try.func10 rfl ?_
  simp only [Try.ntmps10, List.size_toArray, List.length_cons, List.length_nil, Nat.reduceAdd, Nat.reduceSub, Array.replicate_succ, Array.replicate_zero, List.push_toArray, List.append_toArray, List.nil_append, List.cons_append]
  refine wpN_seq (fun K hK => ?_)
  go_wp2
  refine wpN_seq (fun K hK => ?_)
  go_wp2_with (go_at_call 28; (with_reducible refine (made_yes b g _ hB.out).mono ?_); rintro e w2 ⟨rfl, rfl⟩)
  refine wpN_seq (fun K hK => ?_)
  go_wp2
  refine wpN_seq (fun K hK => ?_)
  go_wp2
  refine wpN_seq' ?_
  refine sel_send_full (c := g) (v := ltV x) (z := .agg #[.int .i64 0, .int .u64 0]) (cap := b.room) (buf := bufA b.l) (s := s) (r := r) rfl (by simp [go_sem, execOp, scase, Act.eval, ltV]) (by have := HC.out; rw [hs] at this; exact this) (by rw [bufA_size]; exact hr) ?_
  simp only [Act.put, List.setIfInBounds_toArray, List.set_cons_zero, List.set_cons_succ]
  go_wp2
  go_ret
  exact ⟨rfl, hB.out, Ch.of_below (below1 _ _)⟩

theorem put_any (b : BoxS) (x : Lt) (g : Nat) (w : World) (hb : Bx w g b) :
    Calls Try.prog 10 #[.pointer (some ⟨g + 1, 0, none⟩), .agg #[.int .i64 x.from_, .int .u64 x.word]] w fun e w' => e = .returned (.int .i64 (putE b)) ∧ Bx w' g (putB b x) ∧ Ch w w' g := by
  unfold putE putB
  cases hs : b.shut
  · by_cases hr : b.room ≤ b.l.length
    · simp only [hr, if_true, Bool.false_eq_true, if_false]
      exact put_full b x g w hb hs hr
    · simp only [hr, Bool.false_eq_true, if_false]
      have := put_open b x g w hb hs (by omega)
      rw [hs] at this
      exact this
  · simp only [if_true]
    exact put_shut b x g w hb hs

/-! Take -/
def takeE (b : BoxS) : Int := match b.l with
  | [] => if b.shut then 25 else 6
  | _ :: _ => 0
def takeL (b : BoxS) : Lt := match b.l with
  | [] => ⟨0, 0⟩
  | x :: _ => x
def takeB (b : BoxS) : BoxS := ⟨b.l.tail, b.room, b.shut⟩

set_option maxHeartbeats 2000000 in
theorem take_some (x : Lt) (l : List Lt) (room : Nat) (shut : Bool) (g : Nat) (w : World) (hb : Bx w g ⟨x :: l, room, shut⟩) :
    Calls Try.prog 9 #[.pointer (some ⟨g + 1, 0, none⟩)] w fun e w' => e = .returned (.tuple #[.agg #[.int .i64 x.from_, .int .u64 x.word], .int .i64 0]) ∧ Bx w' g ⟨l, room, shut⟩ ∧ Ch w w' g := by
  have hB := Lib.hid (hb.alloc (Obj.cells #[.int .i64 0, .int .u64 0] 32))
  have bk := Blk.new w 32 #[.int .i64 0, .int .u64 0]
  have hB1 := below1 w (Obj.cells #[.int .i64 0, .int .u64 0] 32)
  have c0 := hB.out.2.cell 0 (.chan (some g)) rfl
  have hgl : g + 1 < w.heap.size := hb.2.lt
  obtain ⟨s, r, hc⟩ := hB.out.1
  have HC := Lib.hid hc
  clear hc
  refine calls_of_wpN Try.func9 rfl ?_
  simp only [Try.ntmps9, List.size_toArray, List.length_cons, List.length_nil, Nat.reduceAdd, Nat.reduceSub, Array.replicate_succ, Array.replicate_zero, List.push_toArray, List.append_toArray, List.nil_append, List.cons_append]
  refine wpN_seq (fun K hK => ?_)
  go_wp2
  refine wpN_seq (fun K hK => ?_)
  go_wp2_with (go_at_call 28; (with_reducible refine (made_yes _ g _ hB.out).mono ?_); rintro e w2 ⟨rfl, rfl⟩)
  refine wpN_seq (fun K hK => ?_)
  go_wp2
  refine wpN_seq' ?_
  refine sel_recv_buf (c := g) (z := .agg #[.int .i64 0, .int .u64 0]) (cap := room) (buf := bufA (x :: l)) (closed := shut) (s := s) (r := r) rfl (by simp [go_sem, execOp, rcase, Act.eval]) HC.out (by rw [bufA_size]; simp) ?_
  rw [bufA_tail, bufA_head]
  have hX := hB.out.chan l s (r + 1)
  have bk2 := Blk.chan bk (show w.heap.size ≠ g by omega) room (bufA l) shut s (r + 1) false
  have hC := (Ch.of_below (g := g) hB1).setChan room (bufA l) shut s (r + 1) false
  simp only at hX
  generalize (w.alloc (Obj.cells #[.int .i64 0, .int .u64 0] 32)).setChan g room (bufA l) shut s (r + 1) false = W1 at *
  have y0 := bk2.cell 0 (.int .i64 0) rfl
  have y1 := bk2.cell 1 (.int .u64 0) rfl
  have f0 := bk2.frozen 0
  have f1 := bk2.frozen 1
  have hlt := bk2.lt
  unfold ltV
  simp only [Act.put, List.setIfInBounds_toArray, List.set_cons_zero, List.set_cons_succ]
  go_wp2
  have hX2 := ((Below.refl w.heap.size W1).setCell (p := ⟨w.heap.size, 0, none⟩) (by simp) (.int .i64 x.from_)).setCell (p := ⟨w.heap.size, 1, none⟩) (by simp) (.int .u64 x.word)
  have hX3 := hX2.alloc (by simp; omega) (Obj.cells #[.int .i64 x.from_, .int .u64 x.word] 32)
  exact bodyPost_ret (v := .tuple #[.agg #[.int .i64 x.from_, .int .u64 x.word], .int .i64 0]) (by simp [results, Try.results9, go_sem, *]) rfl ⟨rfl, hX.low hX3 hgl, hC.low hX3⟩

set_option maxHeartbeats 2000000 in
theorem take_shut (room : Nat) (g : Nat) (w : World) (hb : Bx w g ⟨[], room, true⟩) :
    Calls Try.prog 9 #[.pointer (some ⟨g + 1, 0, none⟩)] w fun e w' => e = .returned (.tuple #[.agg #[.int .i64 0, .int .u64 0], .int .i64 25]) ∧ Bx w' g ⟨[], room, true⟩ ∧ Ch w w' g := by
  have hB := Lib.hid (hb.alloc (Obj.cells #[.int .i64 0, .int .u64 0] 32))
  have bk := Blk.new w 32 #[.int .i64 0, .int .u64 0]
  have hB1 := below1 w (Obj.cells #[.int .i64 0, .int .u64 0] 32)
  have c0 := hB.out.2.cell 0 (.chan (some g)) rfl
  have hgl : g + 1 < w.heap.size := hb.2.lt
  obtain ⟨s, r, hc⟩ := hB.out.1
  have HC := Lib.hid hc
  clear hc
  refine calls_of_wpN Try.func9 rfl ?_
  simp only [Try.ntmps9, List.size_toArray, List.length_cons, List.length_nil, Nat.reduceAdd, Nat.reduceSub, Array.replicate_succ, Array.replicate_zero, List.push_toArray, List.append_toArray, List.nil_append, List.cons_append]
  refine wpN_seq (fun K hK => ?_)
  go_wp2
  refine wpN_seq (fun K hK => ?_)
  go_wp2_with (go_at_call 28; (with_reducible refine (made_yes _ g _ hB.out).mono ?_); rintro e w2 ⟨rfl, rfl⟩)
  refine wpN_seq (fun K hK => ?_)
  go_wp2
  refine wpN_seq' ?_
  refine sel_recv_shut (c := g) (z := .agg #[.int .i64 0, .int .u64 0]) (cap := room) (s := s) (r := r) rfl (by simp [go_sem, execOp, rcase, Act.eval]) HC.out ?_
  have y0 := bk.cell 0 (.int .i64 0) rfl
  have y1 := bk.cell 1 (.int .u64 0) rfl
  have f0 := bk.frozen 0
  have f1 := bk.frozen 1
  have hlt := bk.lt
  have hX := hB.out
  generalize w.alloc (Obj.cells #[.int .i64 0, .int .u64 0] 32) = W1 at *
  simp only [Act.put, List.setIfInBounds_toArray, List.set_cons_zero, List.set_cons_succ]
  go_wp2
  have hX2 := ((Below.refl w.heap.size W1).setCell (p := ⟨w.heap.size, 0, none⟩) (by simp) (.int .i64 0)).setCell (p := ⟨w.heap.size, 1, none⟩) (by simp) (.int .u64 0)
  have hX3 := hX2.alloc (by simp; omega) (Obj.cells #[.int .i64 0, .int .u64 0] 32)
  exact bodyPost_ret (v := .tuple #[.agg #[.int .i64 0, .int .u64 0], .int .i64 25]) (by simp [results, Try.results9, go_sem, *]) rfl ⟨rfl, hX.low hX3 hgl, (Ch.of_below hB1).low hX3⟩

set_option maxHeartbeats 2000000 in
theorem take_none (room : Nat) (g : Nat) (w : World) (hb : Bx w g ⟨[], room, false⟩) :
    Calls Try.prog 9 #[.pointer (some ⟨g + 1, 0, none⟩)] w fun e w' => e = .returned (.tuple #[.agg #[.int .i64 0, .int .u64 0], .int .i64 6]) ∧ Bx w' g ⟨[], room, false⟩ ∧ Ch w w' g := by
  have hB := Lib.hid (hb.alloc (Obj.cells #[.int .i64 0, .int .u64 0] 32))
  have bk := Blk.new w 32 #[.int .i64 0, .int .u64 0]
  have hB1 := below1 w (Obj.cells #[.int .i64 0, .int .u64 0] 32)
  have c0 := hB.out.2.cell 0 (.chan (some g)) rfl
  have hgl : g + 1 < w.heap.size := hb.2.lt
  obtain ⟨s, r, hc⟩ := hB.out.1
  have HC := Lib.hid hc
  clear hc
  refine calls_of_wpN Try.func9 rfl ?_
  simp only [Try.ntmps9, List.size_toArray, List.length_cons, List.length_nil, Nat.reduceAdd, Nat.reduceSub, Array.replicate_succ, Array.replicate_zero, List.push_toArray, List.append_toArray, List.nil_append, List.cons_append]
  refine wpN_seq (fun K hK => ?_)
  go_wp2
  refine wpN_seq (fun K hK => ?_)
  go_wp2_with (go_at_call 28; (with_reducible refine (made_yes _ g _ hB.out).mono ?_); rintro e w2 ⟨rfl, rfl⟩)
  refine wpN_seq (fun K hK => ?_)
  go_wp2
  refine wpN_seq' ?_
  refine sel_recv_none (c := g) (z := .agg #[.int .i64 0, .int .u64 0]) (cap := room) (s := s) (r := r) rfl (by simp [go_sem, execOp, rcase, Act.eval]) HC.out ?_
  have y0 := bk.cell 0 (.int .i64 0) rfl
  have y1 := bk.cell 1 (.int .u64 0) rfl
  have f0 := bk.frozen 0
  have f1 := bk.frozen 1
  have hlt := bk.lt
  have hX := hB.out
  generalize w.alloc (Obj.cells #[.int .i64 0, .int .u64 0] 32) = W1 at *
  simp only [Act.put, List.setIfInBounds_toArray, List.set_cons_zero, List.set_cons_succ]
  go_wp2
  have hX2 := ((Below.refl w.heap.size W1).setCell (p := ⟨w.heap.size, 0, none⟩) (by simp) (.int .i64 0)).setCell (p := ⟨w.heap.size, 1, none⟩) (by simp) (.int .u64 0)
  exact bodyPost_ret (v := .tuple #[.agg #[.int .i64 0, .int .u64 0], .int .i64 6]) (by simp [results, Try.results9, go_sem, *]) rfl ⟨rfl, hX.low hX2 hgl, (Ch.of_below hB1).low hX2⟩

theorem take_any (b : BoxS) (g : Nat) (w : World) (hb : Bx w g b) :
    Calls Try.prog 9 #[.pointer (some ⟨g + 1, 0, none⟩)] w fun e w' => e = .returned (.tuple #[.agg #[.int .i64 (takeL b).from_, .int .u64 (takeL b).word], .int .i64 (takeE b)]) ∧ Bx w' g (takeB b) ∧ Ch w w' g := by
  obtain ⟨l, room, shut⟩ := b
  cases l with
  | cons x l => exact take_some x l room shut g w hb
  | nil => cases shut with
    | true => exact take_shut room g w hb
    | false => exact take_none room g w hb

/-! Shut, Len -/
def shutB (b : BoxS) : BoxS := ⟨b.l, b.room, true⟩
set_option maxHeartbeats 1000000 in
theorem shut_no (b : BoxS) (g : Nat) (w : World) (hb : Bx w g b) (hs : b.shut = true) : Calls Try.prog 11 #[.pointer (some ⟨g + 1, 0, none⟩)] w fun e w' => e = .returned (.bool false) ∧ w = w' := by
  have c2 := hb.2.cell 2 (.bool b.shut) rfl
  rw [hs] at c2
  go_enter Try.func11, Try.ntmps11
  go_wp2_with (go_at_call 28; (with_reducible refine (made_yes b g _ hb).mono ?_); rintro e w2 ⟨rfl, rfl⟩)
  go_ret
  exact ⟨rfl, rfl⟩
set_option maxHeartbeats 1000000 in
theorem shut_yes (b : BoxS) (g : Nat) (w : World) (hb : Bx w g b) (hs : b.shut = false) : Calls Try.prog 11 #[.pointer (some ⟨g + 1, 0, none⟩)] w fun e w' => e = .returned (.bool true) ∧ Bx w' g (shutB b) ∧ Ch w w' g := by
  have c2 := hb.2.cell 2 (.bool b.shut) rfl
  have c0 := hb.2.cell 0 (.chan (some g)) rfl
  have f2 := hb.2.frozen 2
  rw [hs] at c2
  have b2 := hb.2.set_ 2 (.bool true)
  simp only [List.setIfInBounds_toArray, List.set_cons_zero, List.set_cons_succ] at b2
  have x0 := b2.cell 0 (.chan (some g)) rfl
  have hgl := hb.1.lt
  obtain ⟨s, r, hc⟩ := hb.1
  have hc2 : (w.setCell ⟨g + 1, 2, none⟩ (.bool true)).heap[g]? = some (.chan b.room (bufA b.l) false s r false) := by
    rw [Below.heap_setCell w ⟨g + 1, 2, none⟩ (.bool true) g (by simp), hc, hs]
  have hcl := fun ats ty => run_close_open (P := Try.prog) ats ty hc2
  go_enter Try.func11, Try.ntmps11
  go_wp2_with (go_at_call 28; (with_reducible refine (made_yes b g _ hb).mono ?_); rintro e w2 ⟨rfl, rfl⟩)
  go_ret
  have r1 : Bx ((w.setCell ⟨g + 1, 2, none⟩ (.bool true)).setChan g b.room (bufA b.l) true s r false) g (shutB b) := ⟨⟨s, r, heap_setChan _ g _ _ _ _ _ _ (by simpa [World.setCell] using hgl)⟩, Blk.chan b2 (by omega) _ _ _ _ _ _⟩
  have r2 : Ch w ((w.setCell ⟨g + 1, 2, none⟩ (.bool true)).setChan g b.room (bufA b.l) true s r false) g := ((Ch.refl w g).setCell 2 _).setChan _ _ _ _ _ _
  exact ⟨rfl, r1, r2⟩
set_option maxHeartbeats 1000000 in
theorem len_any (b : BoxS) (g : Nat) (w : World) (hb : Bx w g b) : Calls Try.prog 26 #[.pointer (some ⟨g + 1, 0, none⟩)] w fun e w' => e = .returned (.tuple #[.int .i64 b.l.length, .int .i64 b.room]) ∧ Below w.heap.size w w' := by
  have c0 := hb.2.cell 0 (.chan (some g)) rfl
  have c1 := hb.2.cell 1 (.int .i64 b.room) rfl
  obtain ⟨s, r, hc⟩ := hb.1
  have hcn := fun n : Nat => (show (w.drewN n).heap[g]? = some (.chan b.room (bufA b.l) b.shut s r false) from hc)
  have hlen := fun ty n => run_len_chan (P := Try.prog) 68 ty Try.underlying68 (hcn n)
  rw [bufA_size] at hlen
  go_enter Try.func26, Try.ntmps26
  go_wp2_with (go_at_call 28; (with_reducible refine (made_yes b g _ hb).mono ?_); rintro e w2 ⟨rfl, rfl⟩)
  go_quiet (fail)
  go_wp2
  go_ret2
  exact ⟨rfl, bdrewN (Below.refl _ _) _⟩
end Go.Proofs.Ytldpplfkimdaaaa
