/- Walks: no box, and no hub. -/
import Derived.Test.YtldpplfkimdaaaaW3
import Derived.LaidEqlPtr
namespace Go.Proofs.Ytldpplfkimdaaaa
open Go.RowKit Go.Conc

/-- no box: nil, or one that nobody made -/
def NoB (w : World) (p : Option Addr) : Prop := p = none ∨ ∃ q, p = some ⟨q, 0, none⟩ ∧ Blk w q 70 #[.chan none, .int .i64 0, .bool false]
theorem NoB.keep {w w' : World} {p : Option Addr} (h : NoB w p) (hb : Below w.heap.size w w') : NoB w' p := by
  rcases h with h | ⟨q, h, hq⟩
  · exact .inl h
  · exact .inr ⟨q, h, hq.keep hb⟩
set_option maxHeartbeats 1000000 in
theorem made_no (p : Option Addr) (w : World) (h : NoB w p) : Calls Try.prog 28 #[.pointer p] w fun e w' => e = .returned (.bool false) ∧ w = w' := by
  rcases h with rfl | ⟨q, rfl, hq⟩
  · go_enter Try.func28, Try.ntmps28
    go_wp2
    go_ret
    exact ⟨rfl, rfl⟩
  · have c0 := hq.cell 0 (.chan none) rfl
    have hn := neq_chan0
    go_enter Try.func28, Try.ntmps28
    go_wp2
    go_ret
    exact ⟨rfl, rfl⟩
theorem len_no (p : Option Addr) (w : World) (h : NoB w p) : Calls Try.prog 26 #[.pointer p] w fun e w' => e = .returned (.tuple #[.int .i64 0, .int .i64 0]) ∧ w = w' := by
  have hm := Lib.hid (made_no p w h)
  go_enter Try.func26, Try.ntmps26
  go_wp2_with (go_at_call 28; (with_reducible refine hm.out.mono ?_); rintro e w2 ⟨rfl, rfl⟩)
  go_ret2
  exact ⟨rfl, rfl⟩
theorem shut_nobody (p : Option Addr) (w : World) (h : NoB w p) : Calls Try.prog 11 #[.pointer p] w fun e w' => e = .returned (.bool false) ∧ w = w' := by
  have hm := Lib.hid (made_no p w h)
  go_enter Try.func11, Try.ntmps11
  go_wp2_with (go_at_call 28; (with_reducible refine hm.out.mono ?_); rintro e w2 ⟨rfl, rfl⟩)
  go_ret
  exact ⟨rfl, rfl⟩
theorem put_nobody (p : Option Addr) (a b : Int) (w : World) (h : NoB w p) : Calls Try.prog 10 #[.pointer p, .agg #[.int .i64 a, .int .u64 b]] w fun e w' => e = .returned (.int .i64 3) ∧ Below w.heap.size w w' := by
  have hm := Lib.hid (made_no p _ (h.keep (below1 w (Obj.cells #[.int .i64 a, .int .u64 b] 32))))
  go_enter Try.func10, Try.ntmps10
  go_wp2_with (go_at_call 28; (with_reducible refine hm.out.mono ?_); rintro e w2 ⟨rfl, rfl⟩)
  go_ret
  exact ⟨rfl, below1 _ _⟩
set_option maxHeartbeats 1000000 in
theorem take_nobody (p : Option Addr) (w : World) (h : NoB w p) : Calls Try.prog 9 #[.pointer p] w fun e w' => e = .returned (.tuple #[.agg #[.int .i64 0, .int .u64 0], .int .i64 3]) ∧ Below w.heap.size w w' := by
  have hm := Lib.hid (made_no p _ (h.keep (below1 w (Obj.cells #[.int .i64 0, .int .u64 0] 32))))
  have bk := Blk.new w 32 #[.int .i64 0, .int .u64 0]
  have hB1 := below1 w (Obj.cells #[.int .i64 0, .int .u64 0] 32)
  have y0 := bk.cell 0 (.int .i64 0) rfl
  have y1 := bk.cell 1 (.int .u64 0) rfl
  have f0 := bk.frozen 0
  have f1 := bk.frozen 1
  have hlt := bk.lt
  go_enter Try.func9, Try.ntmps9
  go_wp2_with (go_at_call 28; (with_reducible refine hm.out.mono ?_); rintro e w2 ⟨rfl, rfl⟩)
  exact bodyPost_ret (v := .tuple #[.agg #[.int .i64 0, .int .u64 0], .int .i64 3]) (by simp [results, Try.results9, go_sem, *]) rfl ⟨rfl, hB1⟩

/-! Pass, to and from nobody, and to itself -/
theorem pass_from_no (p q : Option Addr) (w : World) (h : NoB w p) : Calls Try.prog 16 #[.pointer p, .pointer q] w fun e w' => e = .returned (.int .i64 0) ∧ w = w' := by
  have hm := Lib.hid (made_no p w h)
  go_enter Try.func16, Try.ntmps16
  go_wp2_with (go_at_call 28; (with_reducible refine hm.out.mono ?_); rintro e w2 ⟨rfl, rfl⟩)
  go_ret
  exact ⟨rfl, rfl⟩
theorem pass_to_no (b : BoxS) (g : Nat) (q : Option Addr) (w : World) (hb : Bx w g b) (h : NoB w q) : Calls Try.prog 16 #[.pointer (some ⟨g + 1, 0, none⟩), .pointer q] w fun e w' => e = .returned (.int .i64 0) ∧ w = w' := by
  have hm := Lib.hid (made_no q w h)
  have hm2 := Lib.hid (made_yes b g w hb)
  go_enter Try.func16, Try.ntmps16
  go_wp2_with (go_at_call 28; (first | (with_reducible refine hm2.out.mono ?_) | (with_reducible refine hm.out.mono ?_)); rintro e w2 ⟨rfl, rfl⟩)
  go_ret
  exact ⟨rfl, rfl⟩
theorem info_box : ∃ i, Try.prog.info? 70 = some i ∧ i.size ≠ 0 := by
  have h : (Try.prog.info? 70).map (fun i => decide (i.size ≠ 0)) = some true := by kernel_rfl
  obtain ⟨i, hi, hb⟩ := Option.map_eq_some_iff.1 h
  exact ⟨i, hi, of_decide_eq_true hb⟩
theorem eql_box (a : Addr) (w : World) : (binOp .eql 24 (.pointer (some a)) (.pointer (some a))).run Try.prog w = .ok (.bool true) w := by
  obtain ⟨i, hi, _⟩ := info_box
  exact run_eql_ptr_same w a Try.underlying24 hi
theorem eql_box_no {g g' : Nat} {w : World} {a b : BoxS} (hg : Bx w g a) (hg' : Bx w g' b) (hne : g ≠ g') : (binOp .eql 24 (.pointer (some ⟨g + 1, 0, none⟩)) (.pointer (some ⟨g' + 1, 0, none⟩))).run Try.prog w = .ok (.bool false) w := by
  obtain ⟨i, hi, hs⟩ := info_box
  exact run_eql_ptr_other w Try.underlying24 hi hs (by simp <;> omega) hg.2 hg'.2
theorem pass_self (b : BoxS) (g : Nat) (w : World) (hb : Bx w g b) : Calls Try.prog 16 #[.pointer (some ⟨g + 1, 0, none⟩), .pointer (some ⟨g + 1, 0, none⟩)] w fun e w' => e = .returned (.int .i64 0) ∧ w = w' := by
  have hm2 := Lib.hid (made_yes b g w hb)
  have heq := eql_box
  go_enter Try.func16, Try.ntmps16
  go_wp2_with (go_at_call 28; (with_reducible refine hm2.out.mono ?_); rintro e w2 ⟨rfl, rfl⟩)
  go_ret
  exact ⟨rfl, rfl⟩

/-! hubs: nil, and one without boxes -/
theorem hbox_nil (k : Int) (w : World) : Calls Try.prog 18 #[.pointer none, .int .i64 k] w fun e w' => e = .returned (.pointer none) ∧ w = w' := by
  go_enter Try.func18, Try.ntmps18
  go_wp2
  go_ret
  exact ⟨rfl, rfl⟩
theorem hbox_empty (k : Int) (q : Nat) (w : World) (hq : Blk w q 72 #[.slice none 0 0]) : Calls Try.prog 18 #[.pointer (some ⟨q, 0, none⟩), .int .i64 k] w fun e w' => e = .returned (.pointer none) ∧ w = w' := by
  have c0 := hq.cell 0 (.slice none 0 0) rfl
  by_cases hk : k < 0
  · go_enter Try.func18, Try.ntmps18
    go_wp2
    go_ret
    exact ⟨rfl, rfl⟩
  · have hk2 : (0 : Int) ≤ k := by omega
    go_enter Try.func18, Try.ntmps18
    go_wp2
    go_ret
    exact ⟨rfl, rfl⟩
theorem hput_nil (k a b : Int) (w : World) : Calls Try.prog 24 #[.pointer none, .int .i64 k, .agg #[.int .i64 a, .int .u64 b]] w fun e w' => e = .returned (.int .i64 3) ∧ Below w.heap.size w w' := by
  go_enter Try.func24, Try.ntmps24
  go_wp2
  go_ret
  exact ⟨rfl, below1 _ _⟩
theorem hput_empty (k a b : Int) (q : Nat) (w : World) (hq : Blk w q 72 #[.slice none 0 0]) : Calls Try.prog 24 #[.pointer (some ⟨q, 0, none⟩), .int .i64 k, .agg #[.int .i64 a, .int .u64 b]] w fun e w' => e = .returned (.int .i64 1) ∧ Below w.heap.size w w' := by
  have hm := Lib.hid (hbox_empty k q _ (hq.alloc (Obj.cells #[.int .i64 a, .int .u64 b] 32)))
  go_enter Try.func24, Try.ntmps24
  go_wp2_with (go_at_call 18; (with_reducible refine hm.out.mono ?_); rintro e w2 ⟨rfl, rfl⟩)
  go_ret
  exact ⟨rfl, below1 _ _⟩
set_option maxHeartbeats 1000000 in
theorem htake_nil (w : World) : Calls Try.prog 19 #[.pointer none] w fun e w' => e = .returned (.tuple #[.int .i64 0, .agg #[.int .i64 0, .int .u64 0], .int .i64 3]) ∧ Below w.heap.size w w' := by
  have bk := Blk.new w 32 #[.int .i64 0, .int .u64 0]
  have hB1 := below1 w (Obj.cells #[.int .i64 0, .int .u64 0] 32)
  have y0 := bk.cell 0 (.int .i64 0) rfl
  have y1 := bk.cell 1 (.int .u64 0) rfl
  have f0 := bk.frozen 0
  have f1 := bk.frozen 1
  have hlt := bk.lt
  go_enter Try.func19, Try.ntmps19
  go_wp2
  exact bodyPost_ret (v := .tuple #[.int .i64 0, .agg #[.int .i64 0, .int .u64 0], .int .i64 3]) (by simp [results, Try.results19, go_sem, *]) rfl ⟨rfl, hB1⟩
set_option maxHeartbeats 1000000 in
theorem htake_empty (q : Nat) (w : World) (hq : Blk w q 72 #[.slice none 0 0]) : Calls Try.prog 19 #[.pointer (some ⟨q, 0, none⟩)] w fun e w' => e = .returned (.tuple #[.int .i64 0, .agg #[.int .i64 0, .int .u64 0], .int .i64 25]) ∧ Below w.heap.size w w' := by
  have c0 := (hq.alloc (Obj.cells #[.int .i64 0, .int .u64 0] 32)).cell 0 (.slice none 0 0) rfl
  have bk := Blk.new w 32 #[.int .i64 0, .int .u64 0]
  have hB1 := below1 w (Obj.cells #[.int .i64 0, .int .u64 0] 32)
  have y0 := bk.cell 0 (.int .i64 0) rfl
  have y1 := bk.cell 1 (.int .u64 0) rfl
  have f0 := bk.frozen 0
  have f1 := bk.frozen 1
  have hlt := bk.lt
  go_enter Try.func19, Try.ntmps19
  go_wp2
  refine wp_loop_rounds 1 ?_
  rw [rounds_succ]
  go_wp2
  exact bodyPost_ret (v := .tuple #[.int .i64 0, .agg #[.int .i64 0, .int .u64 0], .int .i64 25]) (by simp [results, Try.results19, go_sem, *]) rfl ⟨rfl, hB1⟩
set_option maxHeartbeats 1000000 in
theorem hdrain_nil (w : World) : Calls Try.prog 27 #[.pointer none, .int .i64 5] w fun e w' => e = .returned (.slice none 0 0) ∧ Below w.heap.size w w' := by
  go_enter Try.func27, Try.ntmps27
  go_wp2
  refine wp_loop_rounds 1 ?_
  rw [rounds_succ]
  go_wp2_with fail
  refine (htake_nil _).mono ?_
  rintro e w2 ⟨rfl, hB⟩
  go_wp2
  go_ret
  exact ⟨rfl, hB.alloc hB.size _⟩
end Go.Proofs.Ytldpplfkimdaaaa
