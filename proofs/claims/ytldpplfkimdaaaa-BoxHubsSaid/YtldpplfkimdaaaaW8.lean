/- Walks: the document's boxes. -/
import Derived.Test.YtldpplfkimdaaaaW7
import Derived.Test.YtldpplfkimdaaaaApp0
import Derived.Test.YtldpplfkimdaaaaGrand2
import Derived.Test.YtldpplfkimdaaaaWide
import Derived.Deep.DeepCutAuto
import Derived.Deep.CutBlock
namespace Go.Proofs.Ytldpplfkimdaaaa
open Go.RowKit Go.Conc

def eLt (l : Lt) : List Value := [.int .i64 l.from_, .int .u64 l.word]
theorem eLt_ok : EncOk eLt 2 := ⟨fun _ => rfl, fun x u hu => by simp [eLt] at hu; rcases hu with rfl | rfl <;> rfl⟩
theorem elemLt : Elem Try.prog 41 59 2 16 := elem_mk Try.underlying41 (z := .agg #[.int .i64 0, .int .u64 0]) (by kernel_rfl) rfl (by omega)

/-- a document's box, as a value -/
def rbV (A : Option Addr) (c : Nat) (b : BoxS) : Value := .agg #[.slice A b.l.length c, .int .i64 b.room, .bool b.shut]
/-- it reads as the box -/
structure Rb (w : World) (A : Option Addr) (c : Nat) (b : BoxS) : Prop where
  sl : Sl eLt 2 w A b.l
  cap : b.l.length ≤ c
  lo : b.l.length ≤ 64

theorem mkS {W w1 : World} {p q r : Addr} {v u x : Value} (hb : Below W.heap.size W w1) (y0 : W.cell? p = some v) (y1 : W.cell? q = some u) (y2 : W.cell? r = some x) :
    Below W.heap.size W w1 ∧ w1.cell? p = some v ∧ w1.cell? q = some u ∧ w1.cell? r = some x := ⟨hb, kcell hb y0, kcell hb y1, kcell hb y2⟩
theorem mkSa {W w1 : World} {p q r : Addr} {v u x : Value} {o : Obj} {X : Prop} (hb : Below W.heap.size W w1 ∧ X) (y0 : W.cell? p = some v) (y1 : W.cell? q = some u) (y2 : W.cell? r = some x) :
    Below W.heap.size W (w1.alloc o) ∧ (w1.alloc o).cell? p = some v ∧ (w1.alloc o).cell? q = some u ∧ (w1.alloc o).cell? r = some x := mkS (hb.1.alloc hb.1.size o) y0 y1 y2
theorem mkSd {W w1 : World} {p q r : Addr} {v u x : Value} {o : Obj} {X : Prop} (hb : Below W.heap.size W w1.drew ∧ X) (y0 : W.cell? p = some v) (y1 : W.cell? q = some u) (y2 : W.cell? r = some x) :
    Below W.heap.size W (w1.alloc o).drew ∧ (w1.alloc o).drew.cell? p = some v ∧ (w1.alloc o).drew.cell? q = some u ∧ (w1.alloc o).drew.cell? r = some x :=
  mkS ((keepA0 (w1 := w1) (W := W) (o := o) ⟨hb.1.os, hb.1.tape, hb.1.output, hb.1.size, hb.1.block⟩).drew) y0 y1 y2
theorem mkSg {W w1 w2 : World} {row : Option Nat} {p q r : Addr} {v u x : Value} {X : Prop} (hb : Below W.heap.size W w1 ∧ X) (hg : w1.grownBy w2 row) (hr : ∀ k, row = some k → W.heap.size ≤ k) (y0 : W.cell? p = some v) (y1 : W.cell? q = some u) (y2 : W.cell? r = some x) :
    Below W.heap.size W w2 ∧ w2.cell? p = some v ∧ w2.cell? q = some u ∧ w2.cell? r = some x := mkS (bgrow hb.1 hg hr) y0 y1 y2
theorem slB {α : Type} {enc : α → List Value} {sz : Nat} {W w1 : World} {A : Option Addr} {xs : List α} {X : Prop} (hb : Below W.heap.size W w1 ∧ X) (h : Sl enc sz W A xs) : Sl enc sz w1 A xs := h.keep hb.1

set_option maxHeartbeats 2000000 in
theorem rput_shut (A : Option Addr) (c : Nat) (b : BoxS) (x : Lt) (w : World) (hs : b.shut = true) :
    Calls Try.prog 25 #[.agg #[.slice A b.l.length c, .int .i64 b.room, .bool b.shut], .agg #[.int .i64 x.from_, .int .u64 x.word]] w fun e w' => e = .returned (.tuple #[.agg #[.slice A b.l.length c, .int .i64 b.room, .bool b.shut], .int .i64 25]) ∧ Below w.heap.size w w' := by
  rw [hs]
  go_enter Try.func25, Try.ntmps25
  go_wp2_with fail
  have b2 := Blk.new' ((w.alloc (Obj.cells #[.slice A b.l.length c, .int .i64 b.room, .bool true] 43)).alloc (Obj.cells #[.int .i64 x.from_, .int .u64 x.word] 59)) 43 #[.slice A b.l.length c, .int .i64 b.room, .bool true] (g := w.heap.size + 1 + 1) (by simp)
  obtain ⟨d0, d1, d2⟩ : _ ∧ _ ∧ _ := ⟨b2.cell 0 (.slice A b.l.length c) rfl, b2.cell 1 (.int .i64 b.room) rfl, b2.cell 2 (.bool true) rfl⟩
  exact bodyPost_ret (v := .tuple #[.agg #[.slice A b.l.length c, .int .i64 b.room, .bool true], .int .i64 25]) (by simp [results, Try.results25, go_sem, d0, d1, d2]) rfl ⟨rfl, ((below1 _ _).alloc (by simp) _).alloc (by simp; omega) _⟩
set_option maxHeartbeats 2000000 in
theorem rput_full (A : Option Addr) (c : Nat) (b : BoxS) (x : Lt) (w : World) (hs : b.shut = false) (hr : b.room ≤ b.l.length) :
    Calls Try.prog 25 #[.agg #[.slice A b.l.length c, .int .i64 b.room, .bool b.shut], .agg #[.int .i64 x.from_, .int .u64 x.word]] w fun e w' => e = .returned (.tuple #[.agg #[.slice A b.l.length c, .int .i64 b.room, .bool b.shut], .int .i64 20]) ∧ Below w.heap.size w w' := by
  rw [hs]
  have hr' : (b.room : Int) ≤ (b.l.length : Int) := by omega
  go_enter Try.func25, Try.ntmps25
  go_wp2_with fail
  have b2 := Blk.new' ((w.alloc (Obj.cells #[.slice A b.l.length c, .int .i64 b.room, .bool false] 43)).alloc (Obj.cells #[.int .i64 x.from_, .int .u64 x.word] 59)) 43 #[.slice A b.l.length c, .int .i64 b.room, .bool false] (g := w.heap.size + 1 + 1) (by simp)
  obtain ⟨d0, d1, d2⟩ : _ ∧ _ ∧ _ := ⟨b2.cell 0 (.slice A b.l.length c) rfl, b2.cell 1 (.int .i64 b.room) rfl, b2.cell 2 (.bool false) rfl⟩
  exact bodyPost_ret (v := .tuple #[.agg #[.slice A b.l.length c, .int .i64 b.room, .bool false], .int .i64 20]) (by simp [results, Try.results25, go_sem, d0, d1, d2]) rfl ⟨rfl, ((below1 _ _).alloc (by simp) _).alloc (by simp; omega) _⟩
/-- what the slots of Put's region hold: an empty row, the letters anew, one letter -/
def EmptyS (wb : World) (v : Value) (w : World) : Prop := ∃ G, v = .slice (some ⟨G, 0, none⟩) 0 0 ∧ wb.heap.size ≤ G ∧ Own eLt 2 w wb.heap.size 59 (some ⟨G, 0, none⟩) 0 []
def AnewS (wb : World) (l : List Lt) (v : Value) (w : World) : Prop := ∃ A c, v = .slice A l.length c ∧ Own eLt 2 w wb.heap.size 59 A c l
def OneS (x : Lt) (v : Value) (w : World) : Prop := ∃ G, v = .slice (some ⟨G, 0, none⟩) 1 1 ∧ Sl eLt 2 w (some ⟨G, 0, none⟩) [x]
def PutS (wb : World) (l : List Lt) (x : Lt) (d : Nat) (v : Value) (w : World) : Prop := if d = 16 then EmptyS wb v w else if d = 19 then AnewS wb l v w else OneS x v w
theorem put16 {wb : World} {l : List Lt} {x : Lt} {v : Value} {w : World} : PutS wb l x 16 v w ↔ EmptyS wb v w := by simp [PutS]
theorem put19 {wb : World} {l : List Lt} {x : Lt} {v : Value} {w : World} : PutS wb l x 19 v w ↔ AnewS wb l v w := by simp [PutS]
theorem put21 {wb : World} {l : List Lt} {x : Lt} {v : Value} {w : World} : PutS wb l x 21 v w ↔ OneS x v w := by simp [PutS]
theorem EmptyS.keep {wb : World} {v : Value} {w w' : World} (h : EmptyS wb v w) (hz : Keeps w w') : EmptyS wb v w' := by obtain ⟨G, h1, h2, h3⟩ := h; exact ⟨G, h1, h2, h3.keep hz⟩
theorem AnewS.keep {wb : World} {l : List Lt} {v : Value} {w w' : World} (h : AnewS wb l v w) (hz : Keeps w w') : AnewS wb l v w' := by obtain ⟨A, c, h1, h2⟩ := h; exact ⟨A, c, h1, h2.keep hz⟩
theorem OneS.keep {x : Lt} {v : Value} {w w' : World} (h : OneS x v w) (hz : Keeps w w') : OneS x v w' := by obtain ⟨G, h1, h2⟩ := h; exact ⟨G, h1, h2.keep hz⟩
theorem PutS.keep {wb : World} {l : List Lt} {x : Lt} {d : Nat} {v : Value} {w w' : World} (h : PutS wb l x d v w) (hz : Keeps w w') : PutS wb l x d v w' := by
  unfold PutS at *
  by_cases h1 : d = 16
  · simp only [h1, if_true] at h ⊢; exact h.keep hz
  · by_cases h2 : d = 19
    · simp only [h2] at h ⊢; exact AnewS.keep h hz
    · simp only [h1, h2, if_false] at h ⊢; exact h.keep hz
theorem gup_append_fresh {P : Program} {α : Type} {enc : α → List Value} {sz base : Nat} {e t : TypeId} {bytes : Nat} {o : Oper} {a : Act} {U : Value → World → Prop} (w : World) (s x : Operand) (ho : o.op = .call { callee := .builtin .append, args := #[s, x], argTypes := #[t, t] })
    (hE : Elem P t e sz bytes) (hc : EncOk enc sz) {G : Nat} (hown : Own enc sz w base e (some ⟨G, 0, none⟩) 0 []) (hs : a.eval s = .slice (some ⟨G, 0, none⟩) 0 0) {B : Option Addr} {m d : Nat} {ys : List α} (hx : a.eval x = .slice B m d) (hm : ys.length = m) (hsl : Sl enc sz w B ys)
    (h63 : m ≤ maxLen) (hbytes : m * bytes ≤ 140737488355328) (hbase : base ≤ w.heap.size)
    (h : ∀ A' c' w', Own enc sz w' base e A' c' ys → U (.slice A' m c') w') : GUp P Keeps U w ((execOp a.eval o).run P w) := by
  obtain ⟨A', c', w', hr, h2, h3⟩ := run_append_fresh (P := P) (ty := o.type) w hE hc hown hm (d := d) hsl h63 hbytes hbase
  unfold execOp
  simp only [ho, resolve, invoke, builtin, Sem.run_bind, Sem.run_pure, Result.andThen_ok, List.map_toArray, List.map_cons, List.map_nil, hs, hx]
  rw [hr]
  exact gup_v h3 (h A' c' w' h2)
set_option maxRecDepth 100000 in
set_option maxHeartbeats 4000000 in
theorem rput_ok (A : Option Addr) (c : Nat) (l : List Lt) (room : Nat) (x : Lt) (w : World) (h : Sl eLt 2 w A l) (h64 : room ≤ 64) (hr : ¬ room ≤ l.length) :
    Calls Try.prog 25 #[.agg #[.slice A l.length c, .int .i64 room, .bool false], .agg #[.int .i64 x.from_, .int .u64 x.word]] w fun e w' => ∃ (A' : Option Addr) (c' : Nat), e = .returned (.tuple #[.agg #[.slice A' (l ++ [x]).length c', .int .i64 room, .bool false], .int .i64 0]) ∧ Own eLt 2 w' w.heap.size 59 A' c' (l ++ [x]) ∧ Below w.heap.size w w' := by
  have hr' : ¬ (room : Int) ≤ (l.length : Int) := by omega
  have hB : Below w.heap.size w (((w.alloc (Obj.cells #[.slice A l.length c, .int .i64 room, .bool false] 43)).alloc (Obj.cells #[.int .i64 x.from_, .int .u64 x.word] 59)).alloc (Obj.cells #[.slice none 0 0, .int .i64 0, .bool false] 43)) := ((below1 _ _).alloc (by simp) _).alloc (by simp; omega) _
  have b0 := ((Blk.new w 43 #[.slice A l.length c, .int .i64 room, .bool false]).alloc (Obj.cells #[.int .i64 x.from_, .int .u64 x.word] 59)).alloc (Obj.cells #[.slice none 0 0, .int .i64 0, .bool false] 43)
  have b1 := (Blk.new' (w.alloc (Obj.cells #[.slice A l.length c, .int .i64 room, .bool false] 43)) 59 #[.int .i64 x.from_, .int .u64 x.word] (g := w.heap.size + 1) (by simp)).alloc (Obj.cells #[.slice none 0 0, .int .i64 0, .bool false] 43)
  have b2 := Blk.new' ((w.alloc (Obj.cells #[.slice A l.length c, .int .i64 room, .bool false] 43)).alloc (Obj.cells #[.int .i64 x.from_, .int .u64 x.word] 59)) 43 #[.slice none 0 0, .int .i64 0, .bool false] (g := w.heap.size + 1 + 1) (by simp)
  have h1 := h.keep hB
  have HR := Lib.hid (show l.length < 64 by omega)
  clear hr h64 h
  go_enter Try.func25, Try.ntmps25
  go_wp2_with fail
  generalize ((w.alloc (Obj.cells #[.slice A l.length c, .int .i64 room, .bool false] 43)).alloc (Obj.cells #[.int .i64 x.from_, .int .u64 x.word] 59)).alloc (Obj.cells #[.slice none 0 0, .int .i64 0, .bool false] 43) = wb at *
  have c0 := b0.cell 0 (.slice A l.length c) rfl
  have x0 := b1.cell 0 (.int .i64 x.from_) rfl
  have x1 := b1.cell 1 (.int .u64 x.word) rfl
  have f0 := b0.frozen 0
  have z0 := b0.lt
  have HB0 := Lib.hid b0
  have HB1 := Lib.hid b1
  have HB2 := Lib.hid b2
  have HB := Lib.hid hB
  clear b0 b1 b2 hB
  have HS16 : Hid (∀ W : World, Below wb.heap.size wb W → EmptyS wb (.slice (some ⟨W.heap.size, 0, none⟩) 0 0) (W.alloc (.cells #[] 59))) := fun W h => ⟨_, rfl, h.size, Own.empty W _ h.size⟩
  have aft_c0 := cw_cell c0
  have aft_x0 := cw_cell x0
  have aft_x1 := cw_cell x1
  refine wp_region_grand (Keeps _) (fun _ => Keeps) [16, 19, 21] (PutS wb l x) [6, 8] [[6, 3, 0], [6, 3, 2], [6, 5, 4]] 25 (keeps_drew _) (fun _ _ _ h hz => keeps_trans h hz) (fun _ d hd _ v w w' _ h hz => h.keep hz) (by kernel_rfl) (by kernel_rfl) (by rfl) ?_
  repeat (first | (refine gr_row (by rfl) ?_; (try simp only [Act.put, List.setIfInBounds_toArray, List.set_cons_zero, List.set_cons_succ])) | (refine gr_free (by rfl) (by rfl) (by rfl) (by rfl) (by rfl) (fun K hK => ?_); go_big_quiet_op; refine hK _ ?_; clear hK K) | (refine gr_q (by rfl) (by rfl) (by rfl) (by rfl) (by rfl) (by rfl) (fun K hK => ?_); go_big_quiet_op; refine hK _ ?_; clear hK K) | (refine gr_no (by rfl) (by rfl) (by rfl) ?_; (try simp only [Act.put, List.setIfInBounds_toArray, List.set_cons_zero, List.set_cons_succ])) | (refine gr_call (by rfl) (by rfl) (by rfl) (by rfl) (by rfl) (fun K hK => ?_); go_simp; (try simp only [RUp, true_and]); first | (apply Exists.intro; refine ⟨fun n => rfl, hK _ ?_⟩; clear hK K; (try simp only [Act.put, List.setIfInBounds_toArray, List.set_cons_zero, List.set_cons_succ]))) | (refine gr_n 16 [] (by rfl) (by rfl) (by rfl) (by rfl) (fun γ w hC hT => ?_) ?_; (simp only [putG]; go_simp; exact gup_v (below1 w _) (put16.2 (HS16.out w hC))); (try simp only [Act.put, List.setIfInBounds_toArray, List.set_cons_zero, List.set_cons_succ])) | (refine gr_n 19 [16] (by rfl) (by rfl) (by rfl) (by rfl) (fun γ w hC hT => ?_) ?_; ((obtain ⟨G, hv, hG, hO⟩ := put16.1 (hT 16 (by simp))); refine gup_append_fresh w (.tmp 16) (.tmp 18) rfl elemLt eLt_ok hO (by simp only [putG, Act.put, List.setIfInBounds_toArray, List.set_cons_zero, List.set_cons_succ]; rw [hv]; rfl) (by rfl) (m := l.length) (ys := l) rfl (Sl.keep (w := wb) h1 hC) (by have := HR.out; simp only [maxLen]; omega) (by have := HR.out; omega) (Below.size hC) (fun A1 e1 w1 h => put19.2 ⟨A1, e1, rfl, h⟩)); (try simp only [Act.put, List.setIfInBounds_toArray, List.set_cons_zero, List.set_cons_succ])) | (refine gr_n 21 [] (by rfl) (by rfl) (by rfl) (by rfl) (fun γ w hC hT => ?_) ?_; (simp only [putG]; go_simp; exact gup_v (below1 w _) (put21.2 ⟨_, rfl, Sl.new eLt_ok w x _ rfl _⟩)); (try simp only [Act.put, List.setIfInBounds_toArray, List.set_cons_zero, List.set_cons_succ])))
  refine gr_end ?_
  intro γ w5 hb5 hT
  clear aft_c0 aft_x0 aft_x1
  simp only [putG, Act.put, List.setIfInBounds_toArray, List.set_cons_zero, List.set_cons_succ]
  simp only [List.filterMap_cons, List.filterMap_nil, List.getElem?_cons_succ, List.getElem?_cons_zero]
  obtain ⟨A1, e1, g19, own1⟩ := put19.1 (hT 19 (by simp))
  obtain ⟨G2, g21, sl1⟩ := put21.1 (hT 21 (by simp))
  rw [g19, g21]
  clear g19 g21 hT HS16 h1
  refine wpList_append_sl w5 rfl (.tmp 19) (.tmp 21) rfl elemLt eLt_ok (base := wb.heap.size) (xs := l) own1 (n := l.length) rfl rfl (m := 1) rfl (ys := [x]) rfl sl1 (by have := HR.out; simp only [maxLen]; omega) (by have := HR.out; omega) (Below.size hb5) _ rfl (l.length + 1) rfl ?_
  intro A2 e2 w6 own2 hg6 at6
  have hB6 : Below wb.heap.size wb w6 := bgrow hb5 hg6 (fun q hq => (own1.lt q hq).1)
  have b6 := HB0.out.keep hB6
  have r6 := HB2.out.keep hB6
  refine wpList_store_cell w6 rfl 41 _ _ rfl w.heap.size 0 (.slice A2 (l.length + 1) e2) rfl rfl (by kernel_rfl) rfl (b6.one (by simp)) ?_
  refine only_end ?_
  simp only [Act.put, List.setIfInBounds_toArray, List.set_cons_zero, List.set_cons_succ]
  have b7 := b6.set_ 0 (.slice A2 (l.length + 1) e2)
  have r7 := r6.far (p := ⟨w.heap.size, 0, none⟩) (by show w.heap.size + 1 + 1 ≠ w.heap.size; omega) (.slice A2 (l.length + 1) e2)
  have hw : w.heap.size + 1 + 1 < wb.heap.size := HB2.out.lt
  have own7 : Own eLt 2 (w6.setCell ⟨w.heap.size, 0, none⟩ (.slice A2 (l.length + 1) e2)) wb.heap.size 59 A2 e2 (l ++ [x]) := own2.kept (only_set (only_refl w6 w.heap.size) 0 _) (by
    cases h2 : blk A2 with
    | none => exact .inl rfl
    | some k => right; intro he; injection he with he; have := (own2.lt k h2).1; omega)
  have hB7 : Below w.heap.size w (w6.setCell ⟨w.heap.size, 0, none⟩ (.slice A2 (l.length + 1) e2)) := (bstep HB.out (Nat.le_refl _) hB6).setCell (p := ⟨w.heap.size, 0, none⟩) (Nat.le_refl _) _
  clear own1 own2 sl1 hg6 at6 hB6 b6 r6 hb5 c0 x0 x1 f0 HB0 HB1 HB2 HB
  generalize w6.setCell ⟨w.heap.size, 0, none⟩ (.slice A2 (l.length + 1) e2) = w7 at *
  have d0 := b7.cell 0 (.slice A2 (l.length + 1) e2) rfl
  have d1 := b7.cell 1 (.int .i64 room) rfl
  have d2 := b7.cell 2 (.bool false) rfl
  have q0 := r7.cell 0 (.slice none 0 0) rfl
  have q1 := r7.cell 1 (.int .i64 0) rfl
  have q2 := r7.cell 2 (.bool false) rfl
  have f0 := r7.frozen 0
  have f1 := r7.frozen 1
  have f2 := r7.frozen 2
  go_wp2_with fail
  have r8 := ((r7.set_ 0 (.slice A2 (l.length + 1) e2)).set_ 1 (.int .i64 room)).set_ 2 (.bool false)
  have z0' := r8.cell 0 (.slice A2 (l.length + 1) e2) rfl
  have z1' := r8.cell 1 (.int .i64 room) rfl
  have z2' := r8.cell 2 (.bool false) rfl
  have hG := only_set (only_set (only_set (only_refl w7 (w.heap.size + 1 + 1)) 0 (.slice A2 (l.length + 1) e2)) 1 (.int .i64 room)) 2 (.bool false)
  refine bodyPost_ret (v := .tuple #[.agg #[.slice A2 (l.length + 1) e2, .int .i64 room, .bool false], .int .i64 0]) (by simp [results, Try.results25, go_sem, z0', z1', z2']) rfl ⟨A2, e2, by simp, (own7.kept hG ?_).from_ (by omega), ?_⟩
  · cases h2 : blk A2 with
    | none => exact .inl rfl
    | some k => right; intro he; injection he with he; have := (own7.lt k h2).1; omega
  · exact below_only hB7 hG (by omega)
end Go.Proofs.Ytldpplfkimdaaaa
