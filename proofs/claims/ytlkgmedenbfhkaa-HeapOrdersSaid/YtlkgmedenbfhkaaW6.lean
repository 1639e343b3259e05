/- Walks over package heap: New; no heap; the chapter's example. -/
import Derived.Test.YtlkgmedenbfhkaaW4
import Derived.Test.YtlkgmedenbfhkaaW5
namespace Go.Proofs.Ytlkgmedenbfhkaa
open Go.RowKit Go.Lib

set_option maxHeartbeats 1000000 in
theorem new_any (w : World) : Calls Try.prog 5 #[] w fun e w' => e = .returned (.pointer (some ⟨w.heap.size + 1, 0, none⟩)) ∧ Hp (fun i => i < w.heap.size) w' (w.heap.size + 1) [] 0 0 ∧ Below w.heap.size w w' := by
  have hmm := @run_makeMap Try.prog
  go_enter Try.func5, Try.ntmps5
  go_wp2
  go_ret
  refine ⟨rfl, ⟨none, 0, w.heap.size, ?_⟩, (below1 _ _).alloc (by simp) _⟩
  refine ⟨Blk.new' _ _ _ (by simp), Own.nil _ _ _, ⟨#[], _, by rw [Below.heap_alloc _ _ _ (by simp)]; exact heap_alloc_new w _, by simp⟩, by omega, by simp [blk], by simp [blk], fun i hi => ?_⟩
  simp [blk]
  omega
set_option maxHeartbeats 1000000 in
theorem empty_nil (w : World) : Calls Try.prog 14 #[.pointer none] w fun e w' => e = .returned (.bool true) ∧ w = w' := by
  go_enter Try.func14, Try.ntmps14
  go_wp2
  go_ret
  exact ⟨rfl, rfl⟩
set_option maxHeartbeats 1000000 in
theorem empty_zero (g : Nat) (w : World) (c0 : w.cell? ⟨g, 0, none⟩ = some (.bool false)) : Calls Try.prog 14 #[.pointer (some ⟨g, 0, none⟩)] w fun e w' => e = .returned (.bool true) ∧ w = w' := by
  go_enter Try.func14, Try.ntmps14
  go_wp2
  go_ret
  exact ⟨rfl, rfl⟩
set_option maxHeartbeats 1000000 in
theorem first_nil (w : World) : Calls Try.prog 8 #[.pointer none] w fun e w' => e = .returned (.tuple #[.agg #[.int .i64 0, .int .i64 0], .int .i64 0]) ∧ Below w.heap.size w w' := by
  have H := Lib.hid empty_nil
  go_enter Try.func8, Try.ntmps8
  go_wp2_with fail
  refine (H.out _).mono ?_
  rintro e w2 ⟨rfl, rfl⟩
  go_wp2_with fail
  exact bodyPost_ret (v := .tuple #[.agg #[.int .i64 0, .int .i64 0], .int .i64 0]) (by simp [results, Try.results8, go_sem]) rfl ⟨rfl, below1 _ _⟩
set_option maxHeartbeats 1000000 in
theorem pop_nil (w : World) : Calls Try.prog 7 #[.pointer none] w fun e w' => e = .returned (.tuple #[.agg #[.int .i64 0, .int .i64 0], .bool false]) ∧ Below w.heap.size w w' := by
  have H := Lib.hid empty_nil
  go_enter Try.func7, Try.ntmps7
  go_wp2_with fail
  refine (H.out _).mono ?_
  rintro e w2 ⟨rfl, rfl⟩
  go_wp2_with fail
  exact bodyPost_ret (v := .tuple #[.agg #[.int .i64 0, .int .i64 0], .bool false]) (by simp [results, Try.results7, go_sem]) rfl ⟨rfl, below1 _ _⟩
set_option maxHeartbeats 1000000 in
theorem get_zero (g : Nat) (w : World) (c0 : w.cell? ⟨g, 0, none⟩ = some (.bool false)) : Calls Try.prog 9 #[.pointer (some ⟨g, 0, none⟩), .int .i64 1] w fun e w' => e = .returned (.tuple #[.agg #[.int .i64 0, .int .i64 0], .bool false]) ∧ Below w.heap.size w w' := by
  have H := Lib.hid (fun W c => empty_zero g W c)
  have c1 := kcell (below1 w (Obj.cells #[.int .i64 0, .int .i64 0] 28)) c0
  clear c0
  go_enter Try.func9, Try.ntmps9
  go_wp2_with fail
  refine (H.out _ c1).mono ?_
  rintro e w2 ⟨rfl, rfl⟩
  go_wp2_with fail
  exact bodyPost_ret (v := .tuple #[.agg #[.int .i64 0, .int .i64 0], .bool false]) (by simp [results, Try.results9, go_sem]) rfl ⟨rfl, below1 _ _⟩
set_option maxHeartbeats 1000000 in
theorem len_nil (w : World) : Calls Try.prog 10 #[.pointer none] w fun e w' => e = .returned (.int .i64 0) ∧ w = w' := by
  have H := Lib.hid empty_nil
  go_enter Try.func10, Try.ntmps10
  go_wp2_with fail
  refine (H.out _).mono ?_
  rintro e w2 ⟨rfl, rfl⟩
  go_wp2_with fail
  go_ret
  exact ⟨rfl, rfl⟩
set_option maxHeartbeats 1000000 in
theorem push_nil (k x : Int) (w : World) : Calls Try.prog 6 #[.pointer none, .agg #[.int .i64 k, .int .i64 x]] w fun e w' => e = .returned (.int .i64 0) ∧ Below w.heap.size w w' := by
  go_enter Try.func6, Try.ntmps6
  go_wp2
  go_ret
  exact ⟨rfl, below1 _ _⟩
set_option maxHeartbeats 1000000 in
theorem push_zero (g : Nat) (k x : Int) (w : World) (c0 : w.cell? ⟨g, 0, none⟩ = some (.bool false)) : Calls Try.prog 6 #[.pointer (some ⟨g, 0, none⟩), .agg #[.int .i64 k, .int .i64 x]] w fun e w' => e = .returned (.int .i64 0) ∧ Below w.heap.size w w' := by
  have hl := World.block_lt_of_cell? w _ c0
  have c1 := kcell (below1 w (Obj.cells #[.int .i64 k, .int .i64 x] 28)) c0
  clear c0
  go_enter Try.func6, Try.ntmps6
  go_wp2
  go_ret
  exact ⟨rfl, below1 _ _⟩
set_option maxHeartbeats 1000000 in
theorem drop_nil (w : World) : Calls Try.prog 11 #[.pointer none, .int .i64 1] w fun e w' => e = .returned (.bool false) ∧ w = w' := by
  have H := Lib.hid empty_nil
  go_enter Try.func11, Try.ntmps11
  go_wp2_with fail
  refine (H.out _).mono ?_
  rintro e w2 ⟨rfl, rfl⟩
  go_wp2_with fail
  go_ret
  exact ⟨rfl, rfl⟩
set_option maxHeartbeats 1000000 in
theorem change_nil (w : World) : Calls Try.prog 12 #[.pointer none, .int .i64 1, .int .i64 1] w fun e w' => e = .returned (.bool false) ∧ w = w' := by
  have H := Lib.hid empty_nil
  go_enter Try.func12, Try.ntmps12
  go_wp2_with fail
  refine (H.out _).mono ?_
  rintro e w2 ⟨rfl, rfl⟩
  go_wp2_with fail
  go_ret
  exact ⟨rfl, rfl⟩

/-! the chapter's example -/
theorem aw_min {E : List En} (h : HeapB E) (hp : E.Perm [⟨5, 1, 1, 1⟩, ⟨3, 0, 2, 2⟩, ⟨5, 2, 3, 3⟩]) : atE E 0 = ⟨3, 0, 2, 2⟩ := by
  have h0 : 0 < E.length := by rw [hp.length_eq]; decide
  have hm := hp.mem_iff.1 (atE_mem h0)
  have hb := heap_least h _ (hp.mem_iff.2 (show (⟨3, 0, 2, 2⟩ : En) ∈ _ by simp))
  simp at hm
  rcases hm with e | e | e
  · rw [e] at hb; simp [leE] at hb
  · exact e
  · rw [e] at hb; simp [leE] at hb
theorem aw_min2 {E : List En} (h : HeapB E) (hp : E.Perm [⟨5, 1, 1, 1⟩, ⟨5, 2, 3, 3⟩]) : atE E 0 = ⟨5, 1, 1, 1⟩ := by
  have h0 : 0 < E.length := by rw [hp.length_eq]; decide
  have hm := hp.mem_iff.1 (atE_mem h0)
  have hb := heap_least h _ (hp.mem_iff.2 (show (⟨5, 1, 1, 1⟩ : En) ∈ _ by simp))
  simp at hm
  rcases hm with e | e
  · exact e
  · rw [e] at hb; simp [leE] at hb
theorem aw_rest {E E' : List En} (hp : E.Perm [⟨5, 1, 1, 1⟩, ⟨3, 0, 2, 2⟩, ⟨5, 2, 3, 3⟩]) (h : ((⟨3, 0, 2, 2⟩ : En) :: E').Perm E) : E'.Perm [⟨5, 1, 1, 1⟩, ⟨5, 2, 3, 3⟩] := by
  have h1 := h.trans hp
  have h2 : [(⟨5, 1, 1, 1⟩ : En), ⟨3, 0, 2, 2⟩, ⟨5, 2, 3, 3⟩].Perm (⟨3, 0, 2, 2⟩ :: [⟨5, 1, 1, 1⟩, ⟨5, 2, 3, 3⟩]) := List.Perm.swap _ _ _
  exact (List.perm_cons _).1 (h1.trans h2)
set_option maxRecDepth 100000 in
set_option maxHeartbeats 4000000 in
theorem awake_any (w : World) : Calls Try.prog 4 #[] w fun e w' => e = .returned (.bool true) ∧ Below w.heap.size w w' := by
  have HP := Lib.hid (fun F g E hd tn k x W h1 h2 h3 h4 h5 h6 h7 => push_any F g E hd tn k x W h1 h2 h3 h4 h5 h6 h7)
  have HO := Lib.hid (fun F g n E hd tn W h1 h2 h3 h4 => pop_any F g n E hd tn W h1 h2 h3 h4)
  go_enter Try.func4, Try.ntmps4
  go_wp2_with fail
  refine (new_any _).mono ?_
  rintro e w1 ⟨rfl, h1, hb1⟩
  generalize w.heap.size + 1 = g at *
  have hB1 : Kp (fun i => i < w.heap.size) w w1 := Kp.of_low hb1 (fun _ h => h)
  go_wp2_with fail
  refine (HP.out _ g [] 0 0 5 1 _ h1 (fun j hj => absurd hj (by simp)) (by simp) (by omega) (by omega) (by omega) (by omega)).mono ?_
  rintro e w2 ⟨rfl, ⟨E2, h2, p2, o2⟩, k2⟩
  have l2 : E2.length = 1 := by rw [p2.length_eq]; rfl
  have H2 := Lib.hid (And.intro p2 o2)
  clear p2 o2 h1 hb1
  go_wp2_with fail
  refine (HP.out _ g E2 1 1 3 0 _ h2 H2.out.2 (by omega) (by omega) (by omega) (by omega) (by omega)).mono ?_
  rintro e w3 ⟨rfl, ⟨E3, h3, p3, o3⟩, k3⟩
  have l3 : E3.length = 2 := by rw [p3.length_eq]; simp [l2]
  have H3 := Lib.hid (And.intro p3 o3)
  clear p3 o3 h2
  go_wp2_with fail
  refine (HP.out _ g E3 2 2 5 2 _ h3 H3.out.2 (by omega) (by omega) (by omega) (by omega) (by omega)).mono ?_
  rintro e w4 ⟨rfl, ⟨E4, h4, p4, o4⟩, k4⟩
  have hp4 : E4.Perm [⟨5, 1, 1, 1⟩, ⟨3, 0, 2, 2⟩, ⟨5, 2, 3, 3⟩] := by
    refine p4.trans ?_
    have q1 := H3.out.1.append_right [(⟨5, 2, 3, 3⟩ : En)]
    have q2 := (H2.out.1.append_right [(⟨3, 0, 2, 2⟩ : En)]).append_right [(⟨5, 2, 3, 3⟩ : En)]
    exact q1.trans q2
  have l4 : E4.length = 2 + 1 := by rw [hp4.length_eq]; rfl
  have hx4 := aw_min o4 hp4
  have H4 := Lib.hid (And.intro hp4 o4)
  have HB4 := Lib.hid (((hB1.trans k2).trans k3).trans k4)
  have HO1 := Lib.hid (HO.out _ g 2 E4 3 3 w4 l4 (by omega) h4 H4.out.2)
  rw [hx4] at HO1
  clear p4 o4 hp4 h3 hx4 l4 l3 l2 k2 k3 k4 hB1 h4
  go_wp2_with fail
  refine HO1.out.mono ?_
  rintro e w5 ⟨rfl, ⟨E5, h5, p5, o5⟩, k5⟩
  have hp5 := aw_rest H4.out.1 p5
  have l5 : E5.length = 1 + 1 := by rw [hp5.length_eq]; rfl
  have hx5 := aw_min2 o5 hp5
  have hbx := h5.box (Obj.cells #[.int .i64 3, .int .i64 0] 28)
  have hb5 : Kp (fun i => i < w.heap.size) w5 (w5.alloc (Obj.cells #[.int .i64 3, .int .i64 0] 28)) := h5.kp (below1 w5 _)
  have HB5 := Lib.hid ((HB4.out.trans k5).trans hb5)
  have y5 := Blk.new w5 28 #[.int .i64 3, .int .i64 0]
  have HO2 := Lib.hid (HO.out _ g 1 E5 3 3 _ l5 (by omega) hbx o5)
  rw [hx5] at HO2
  have HP5 := Lib.hid hp5
  clear p5 o5 hp5 hx5 k5 h5 hbx HO1 hb5 l5
  go_wp2_with fail
  refine HO2.out.mono ?_
  rintro e w6 ⟨rfl, ⟨E6, h6, p6, o6⟩, k6⟩
  have y6 := k6.blk y5 (.inr rfl)
  have l6 : E6.length = 1 := by have := (p6.trans HP5.out).length_eq; simp at this; exact this
  have hbb : Below w6.heap.size w6 (w6.alloc (Obj.cells #[.int .i64 5, .int .i64 1] 28)) := below1 _ _
  have y7 := y6.keep hbb
  have x0 := y7.cell 0 _ rfl
  have z1 := (Blk.new w6 28 #[.int .i64 5, .int .i64 1]).cell 1 _ rfl
  have HL := Lib.hid (len_any _ g E6 3 3 _ (h6.keep hbb))
  rw [l6] at HL
  have HB7 : Hid (Below w.heap.size w (w6.alloc (Obj.cells #[.int .i64 5, .int .i64 1] 28))) := bstep (((HB5.out.trans (k6.mono fun i hi => .inl hi))).low (fun b h => h)) (Nat.le_refl _) hbb
  clear y5 y6 y7 h6 p6 o6 k6 hbb l6 HO2
  go_wp2_with fail
  refine HL.out.mono ?_
  rintro e w8 ⟨rfl, rfl⟩
  go_wp2_with fail
  go_ret
  exact ⟨rfl, HB7.out⟩
end Go.Proofs.Ytlkgmedenbfhkaa
