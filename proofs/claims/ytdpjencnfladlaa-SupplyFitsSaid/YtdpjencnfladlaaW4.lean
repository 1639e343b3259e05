/- Walks: the part of the processor that a reservation is; the statement SupplyGives. -/
import Derived.Test.YtdpjencnfladlaaW3
import Derived.Test.YtdpjencnfladlaaQW5
import Derived.Test.YtdpjencnfladlaaAft
import Derived.Test.YtdpjencnfladlaaBlk
namespace Go.Proofs.Ytdpjencnfladlaa
open Go.RowKit

theorem u_conv (n : Nat) (h : n ≤ 1048576) : IntKind.u64.wrap (n : Int) = (n : Int) := by rw [IntKind.wrap_u64]; omega

set_option maxHeartbeats 1000000 in
theorem share_no (b p : Int) (w : World) (h : resB b p = false) :
    Calls Try.prog 17 #[.agg #[.int .i64 b, .int .i64 p]] w fun e w' => e = .returned (.agg #[.int .u64 0, .int .u64 0]) ∧ Below w.heap.size w w' := by
  have hR := Lib.hid (fun W => right_any b p W)
  rw [h] at hR
  have bk : Blk ((w.alloc (Obj.cells #[.int .i64 b, .int .i64 p] 25)).alloc (Obj.cells #[.int .u64 0, .int .u64 0] 39)) (w.heap.size + 1) 39 #[.int .u64 0, .int .u64 0] := Blk.new' _ _ _ (by simp)
  have hB : Below w.heap.size w ((w.alloc (Obj.cells #[.int .i64 b, .int .i64 p] 25)).alloc (Obj.cells #[.int .u64 0, .int .u64 0] 39)) := (below1 _ _).alloc (by simp) _
  go_enter Try.func17, Try.ntmps17
  go_wp2_with (go_at_call 16; (with_reducible refine (hR.out _).mono ?_); rintro e w2 ⟨rfl, hb⟩; replace bk := bk.keep hb; replace hB := bstep hB (Nat.le_refl _) hb; clear hb; have d0 := bk.cell 0 _ rfl; have d1 := bk.cell 1 _ rfl; have f0 := bk.frozen 0; have f1 := bk.frozen 1)
  exact bodyPost_ret (v := .agg #[.int .u64 0, .int .u64 0]) (by simp [results, Try.results17, go_sem, d0, d1]) rfl ⟨rfl, (hB.setCell (by simp) _).setCell (by simp) _⟩

set_option maxHeartbeats 1000000 in
theorem share_yes (b p : Nat) (w : World) (h1 : 1 ≤ b) (h2 : b ≤ p) (h3 : p ≤ 1048576) :
    Calls Try.prog 17 #[.agg #[.int .i64 b, .int .i64 p]] w fun e w' => e = .returned (.agg #[.int .u64 ((Rat.makeR b p).num : Int), .int .u64 ((Rat.makeR b p).den : Int)]) ∧ Below w.heap.size w w' := by
  have hR := Lib.hid (fun W => right_any (b : Int) p W)
  rw [resB_t (by omega)] at hR
  have hO : Hid (∀ W, Calls Try.prog 24 #[.int .u64 b, .int .u64 p] W fun e w' => e = .returned (.tuple #[.agg #[.int .u64 ((Rat.makeR b p).num : Int), .int .u64 ((Rat.makeR b p).den : Int)], .int .i64 0]) ∧ Below W.heap.size W w') := fun W => Rat.of_any b p W (by omega) (by omega) (by omega)
  generalize (Rat.makeR b p).num = rn at *
  generalize (Rat.makeR b p).den = rd at *
  have e1 := u_conv b (by omega)
  have e2 := u_conv p h3
  have bx : Blk ((w.alloc (Obj.cells #[.int .i64 b, .int .i64 p] 25)).alloc (Obj.cells #[.int .u64 0, .int .u64 0] 39)) w.heap.size 25 #[.int .i64 b, .int .i64 p] := (Blk.new _ _ _).alloc _
  have bk : Blk ((w.alloc (Obj.cells #[.int .i64 b, .int .i64 p] 25)).alloc (Obj.cells #[.int .u64 0, .int .u64 0] 39)) (w.heap.size + 1) 39 #[.int .u64 0, .int .u64 0] := Blk.new' _ _ _ (by simp)
  have hB : Below w.heap.size w ((w.alloc (Obj.cells #[.int .i64 b, .int .i64 p] 25)).alloc (Obj.cells #[.int .u64 0, .int .u64 0] 39)) := (below1 _ _).alloc (by simp) _
  have c0 := bx.cell 0 _ rfl
  have c1 := bx.cell 1 _ rfl
  simp only [List.getElem_toArray, List.getElem_cons_zero, List.getElem_cons_succ] at c0 c1
  clear bx
  go_enter Try.func17, Try.ntmps17
  go_wp2_with (first | (go_at_call 16; (with_reducible refine (hR.out _).mono ?_); rintro e w2 ⟨rfl, hb⟩; replace c0 := kcell hb c0; replace c1 := kcell hb c1; replace bk := bk.keep hb; replace hB := bstep hB (Nat.le_refl _) hb; clear hb) | (go_at_call 24; (with_reducible refine (hO.out _).mono ?_); rintro e w3 ⟨rfl, hb⟩; replace bk := bk.keep hb; replace hB := bstep hB (Nat.le_refl _) hb; clear hb c0 c1; have d0 := bk.cell 0 _ rfl; have d1 := bk.cell 1 _ rfl; have f0 := bk.frozen 0; have f1 := bk.frozen 1; have hlt : w.heap.size + 1 < w3.heap.size := bk.lt))
  have hX := (hB.setCell (p := ⟨w.heap.size + 1, 0, none⟩) (by simp) (.int .u64 rn)).setCell (p := ⟨w.heap.size + 1, 1, none⟩) (by simp) (.int .u64 rd)
  exact bodyPost_ret (v := .agg #[.int .u64 rn, .int .u64 rd]) (by simp [results, Try.results17, go_sem, d0, d1, hlt]) rfl ⟨rfl, hX.alloc hX.size _⟩

set_option maxRecDepth 100000 in
set_option maxHeartbeats 4000000 in
theorem gives_no (b p t : Int) (w : World) (h : resB b p = false) :
    Calls Try.prog 6 #[.agg #[.int .i64 b, .int .i64 p], .int .i64 t] w fun e w' => e = .returned (.bool true) ∧ Below w.heap.size w w' := by
  have hR := Lib.hid (fun W => right_any b p W)
  have hQ := Lib.hid (fun W => refRight_any b p W)
  rw [h] at hR hQ
  have hS := Lib.hid (fun W => share_no b p W h)
  have hL := Lib.hid (fun W => least_no b p t W (.inl h))
  have hM := Lib.hid (fun W => most_no b p t W (.inl h))
  have c0 : (w.alloc (Obj.cells #[.int .i64 b, .int .i64 p] 23)).cell? ⟨w.heap.size, 0, none⟩ = some (.int .i64 b) := by simp
  have c1 : (w.alloc (Obj.cells #[.int .i64 b, .int .i64 p] 23)).cell? ⟨w.heap.size, 1, none⟩ = some (.int .i64 p) := by simp
  have hB := below1 w (Obj.cells #[.int .i64 b, .int .i64 p] 23)
  go_enter Try.func6, Try.ntmps6
  go_wp2_with (go_at_call 8; (with_reducible refine (to_any _ _ _).mono ?_); rintro e w2 ⟨rfl, hb⟩; replace c0 := kcell hb c0; replace c1 := kcell hb c1; replace hB := bstep hB (Nat.le_refl _) hb; clear hb)
  have bx := Blk.new w2 25 #[.int .i64 b, .int .i64 p]
  (have hb := below1 w2 (Obj.cells #[.int .i64 b, .int .i64 p] 25); replace c0 := kcell hb c0; replace c1 := kcell hb c1; replace hB := bstep hB (Nat.le_refl _) hb; clear hb)
  generalize w2.alloc (Obj.cells #[.int .i64 b, .int .i64 p] 25) = w3 at *
  generalize w2.heap.size = gx at *
  have x0 := bx.cell 0 _ rfl
  have x1 := bx.cell 1 _ rfl
  simp only [List.getElem_toArray, List.getElem_cons_zero, List.getElem_cons_succ] at x0 x1
  clear bx
  (have aft_c0 := Aft.cell c0; have aft_c1 := Aft.cell c1; have aft_x0 := Aft.cell x0; have aft_x1 := Aft.cell x1; refine wp_region_aft (by kernel_rfl) (by kernel_rfl) ?_; (repeat (go_big_quiet_step ((first | (go_at_call 16; with_reducible exact aft_call (hR.out _)) | (go_at_call 13; with_reducible exact aft_call (hQ.out _)))))); refine wpQuiet_nil ?_; clear aft_c0 aft_c1 aft_x0 aft_x1; intro w4 hw2_; have hb := Aft.below hw2_; clear hw2_)
  (replace c0 := kcell hb c0; replace c1 := kcell hb c1; replace x0 := kcell hb x0; replace x1 := kcell hb x1; replace hB := bstep hB (Nat.le_refl _) hb; clear hb)
  go_wp2_with fail
  refine (hS.out _).mono ?_
  rintro e w5 ⟨rfl, hb⟩
  (replace c0 := kcell hb c0; replace c1 := kcell hb c1; replace x0 := kcell hb x0; replace x1 := kcell hb x1; replace hB := bstep hB (Nat.le_refl _) hb; clear hb)
  have hg5 : w.heap.size < w5.heap.size := World.block_lt_of_cell? _ _ c0
  go_wp2_with fail
  clear hg5
  have bs := Blk.new w5 39 #[.int .u64 0, .int .u64 0]
  (have hb := below1 w5 (Obj.cells #[.int .u64 0, .int .u64 0] 39); replace c0 := kcell hb c0; replace c1 := kcell hb c1; replace x0 := kcell hb x0; replace x1 := kcell hb x1; replace hB := bstep hB (Nat.le_refl _) hb; clear hb)
  generalize w5.alloc (Obj.cells #[.int .u64 0, .int .u64 0] 39) = w6 at *
  generalize w5.heap.size = gs at *
  have s0 := bs.cell 0 _ rfl
  have s1 := bs.cell 1 _ rfl
  simp only [List.getElem_toArray, List.getElem_cons_zero, List.getElem_cons_succ] at s0 s1
  clear bs
  refine (hQ.out _).mono ?_
  rintro e w7 ⟨rfl, hb⟩
  (replace c0 := kcell hb c0; replace c1 := kcell hb c1; replace x0 := kcell hb x0; replace x1 := kcell hb x1; replace s0 := kcell hb s0; replace s1 := kcell hb s1; replace hB := bstep hB (Nat.le_refl _) hb; clear hb)
  go_wp2_with fail
  (have aft_x0 := Aft.cell x0; have aft_x1 := Aft.cell x1; have aft_s0 := Aft.cell s0; have aft_s1 := Aft.cell s1; refine wp_region_aft (by kernel_rfl) (by kernel_rfl) ?_; (repeat (go_big_quiet_step ((first | (go_at_call 9; with_reducible exact aft_call (hL.out _)) | (go_at_call 10; with_reducible exact aft_call (hM.out _)) | (go_at_call 11; with_reducible exact aft_call (awake_any _)))))); refine wpQuiet_nil ?_; clear aft_x0 aft_x1 aft_s0 aft_s1; intro w8 hw2_; have hb := Aft.below hw2_; clear hw2_)
  replace hB := bstep hB (Nat.le_refl _) hb
  go_wp2_with fail
  go_ret
  exact ⟨rfl, hB⟩

set_option maxRecDepth 100000 in
set_option maxHeartbeats 4000000 in
theorem gives_yes (b p : Nat) (t : Int) (w : World) (h1 : 1 ≤ b) (h2 : b ≤ p) (h3 : p ≤ 1048576) :
    Calls Try.prog 6 #[.agg #[.int .i64 b, .int .i64 p], .int .i64 t] w fun e w' => e = .returned (.bool true) ∧ Below w.heap.size w w' := by
  have hR := Lib.hid (fun W => right_any (b : Int) p W)
  have hQ := Lib.hid (fun W => refRight_any (b : Int) p W)
  have HB := resB_t (b := (b : Int)) (p := (p : Int)) (by omega)
  rw [HB] at hR hQ
  have hS := Lib.hid (fun W => share_yes b p W h1 h2 h3)
  have hK := Lib.hid (fun W => Rat.refMake_any b p W (by omega) (by omega) (by omega))
  generalize (Rat.makeR b p).num = rn at *
  generalize (Rat.makeR b p).den = rd at *
  have hLn := Lib.hid (fun W h => least_no (b : Int) p t W (.inr ⟨HB, h⟩))
  have hMn := Lib.hid (fun W h => most_no (b : Int) p t W (.inr ⟨HB, h⟩))
  have hLy := Lib.hid (fun W h h' => least_yes (b : Int) p t W (by omega) (by omega) (by omega) h h')
  have hMy := Lib.hid (fun W h h' => most_yes (b : Int) p t W (by omega) (by omega) (by omega) h h')
  have hLr := Lib.hid (fun W h h' => refLeast_any (b : Int) p t W (by omega) (by omega) (by omega) h h')
  have hMr := Lib.hid (fun W h h' => refMost_any (b : Int) p t W (by omega) (by omega) (by omega) h h')
  generalize leastI (b : Int) p t = lv at *
  generalize mostI (b : Int) p t = mv at *
  have e1 := u_conv b (by omega)
  have e2 := u_conv p h3
  have tl : (lv == lv) = true := by simp
  have tm : (mv == mv) = true := by simp
  have c0 : (w.alloc (Obj.cells #[.int .i64 b, .int .i64 p] 23)).cell? ⟨w.heap.size, 0, none⟩ = some (.int .i64 b) := by simp
  have c1 : (w.alloc (Obj.cells #[.int .i64 b, .int .i64 p] 23)).cell? ⟨w.heap.size, 1, none⟩ = some (.int .i64 p) := by simp
  have hB := below1 w (Obj.cells #[.int .i64 b, .int .i64 p] 23)
  go_enter Try.func6, Try.ntmps6
  go_wp2_with (go_at_call 8; (with_reducible refine (to_any _ _ _).mono ?_); rintro e w2 ⟨rfl, hb⟩; replace c0 := kcell hb c0; replace c1 := kcell hb c1; replace hB := bstep hB (Nat.le_refl _) hb; clear hb)
  have bx := Blk.new w2 25 #[.int .i64 b, .int .i64 p]
  (have hb := below1 w2 (Obj.cells #[.int .i64 b, .int .i64 p] 25); replace c0 := kcell hb c0; replace c1 := kcell hb c1; replace hB := bstep hB (Nat.le_refl _) hb; clear hb)
  generalize w2.alloc (Obj.cells #[.int .i64 b, .int .i64 p] 25) = w3 at *
  generalize w2.heap.size = gx at *
  have x0 := bx.cell 0 _ rfl
  have x1 := bx.cell 1 _ rfl
  simp only [List.getElem_toArray, List.getElem_cons_zero, List.getElem_cons_succ] at x0 x1
  clear bx
  (have aft_c0 := Aft.cell c0; have aft_c1 := Aft.cell c1; have aft_x0 := Aft.cell x0; have aft_x1 := Aft.cell x1; refine wp_region_aft (by kernel_rfl) (by kernel_rfl) ?_; (repeat (go_big_quiet_step ((first | (go_at_call 16; with_reducible exact aft_call (hR.out _)) | (go_at_call 13; with_reducible exact aft_call (hQ.out _)))))); refine wpQuiet_nil ?_; clear aft_c0 aft_c1 aft_x0 aft_x1; intro w4 hw2_; have hb := Aft.below hw2_; clear hw2_)
  (replace c0 := kcell hb c0; replace c1 := kcell hb c1; replace x0 := kcell hb x0; replace x1 := kcell hb x1; replace hB := bstep hB (Nat.le_refl _) hb; clear hb)
  go_wp2_with fail
  refine (hS.out _).mono ?_
  rintro e w5 ⟨rfl, hb⟩
  (replace c0 := kcell hb c0; replace c1 := kcell hb c1; replace x0 := kcell hb x0; replace x1 := kcell hb x1; replace hB := bstep hB (Nat.le_refl _) hb; clear hb)
  have hg5 : w.heap.size < w5.heap.size := World.block_lt_of_cell? _ _ c0
  go_wp2_with fail
  clear hg5
  have bs := Blk.new w5 39 #[.int .u64 rn, .int .u64 rd]
  (have hb := below1 w5 (Obj.cells #[.int .u64 rn, .int .u64 rd] 39); replace c0 := kcell hb c0; replace c1 := kcell hb c1; replace x0 := kcell hb x0; replace x1 := kcell hb x1; replace hB := bstep hB (Nat.le_refl _) hb; clear hb)
  generalize w5.alloc (Obj.cells #[.int .u64 rn, .int .u64 rd] 39) = w6 at *
  generalize w5.heap.size = gs at *
  have s0 := bs.cell 0 _ rfl
  have s1 := bs.cell 1 _ rfl
  simp only [List.getElem_toArray, List.getElem_cons_zero, List.getElem_cons_succ] at s0 s1
  clear bs
  refine (hQ.out _).mono ?_
  rintro e w7 ⟨rfl, hb⟩
  (replace c0 := kcell hb c0; replace c1 := kcell hb c1; replace x0 := kcell hb x0; replace x1 := kcell hb x1; replace s0 := kcell hb s0; replace s1 := kcell hb s1; replace hB := bstep hB (Nat.le_refl _) hb; clear hb)
  go_wp2_with fail
  refine (hK.out _).mono ?_
  rintro e w8 ⟨rfl, hb⟩
  (replace c0 := kcell hb c0; replace c1 := kcell hb c1; replace x0 := kcell hb x0; replace x1 := kcell hb x1; replace s0 := kcell hb s0; replace s1 := kcell hb s1; replace hB := bstep hB (Nat.le_refl _) hb; clear hb)
  have s0' := s0
  have hgs : gs < w8.heap.size := World.block_lt_of_cell? _ _ s0
  have hgx : gx < w8.heap.size := World.block_lt_of_cell? _ _ x0
  have hgw : w.heap.size < w8.heap.size := World.block_lt_of_cell? _ _ c0
  by_cases ht : 0 ≤ t ∧ t ≤ 1048576
  · obtain ⟨t0, t1⟩ := ht
    go_wp2_with fail
    (have hb := below1 w8 (Obj.cells #[.int .u64 rn, .int .u64 rd] 41); replace c0 := kcell hb c0; replace c1 := kcell hb c1; replace x0 := kcell hb x0; replace x1 := kcell hb x1; replace hB := bstep hB (Nat.le_refl _) hb; clear hb)
    generalize w8.alloc (Obj.cells #[.int .u64 rn, .int .u64 rd] 41) = w9 at *
    (have aft_c0 := Aft.cell c0; have aft_c1 := Aft.cell c1; have aft_x0 := Aft.cell x0; have aft_x1 := Aft.cell x1; refine wp_region_aft (by kernel_rfl) (by kernel_rfl) ?_; (repeat (go_big_quiet_step ((first | (go_at_call 9; with_reducible exact aft_call (hLy.out _ t0 t1)) | (go_at_call 10; with_reducible exact aft_call (hMy.out _ t0 t1)) | (go_at_call 14; with_reducible exact aft_call (hLr.out _ t0 t1)) | (go_at_call 19; with_reducible exact aft_call (hMr.out _ t0 t1)) | (go_at_call 11; with_reducible exact aft_call (awake_any _)))))); refine wpQuiet_nil ?_; clear aft_c0 aft_c1 aft_x0 aft_x1; intro w10 hw2_; have hb := Aft.below hw2_; clear hw2_)
    replace hB := bstep hB (Nat.le_refl _) hb
    go_wp2_with fail
    go_ret
    exact ⟨rfl, hB⟩
  · have HT := strB_f ht
    have ht2 : ¬ 0 ≤ t ∨ 1048576 < t := by omega
    by_cases tn : t < 0
    all_goals
      go_wp2_with fail
      (have hb := below1 w8 (Obj.cells #[.int .u64 rn, .int .u64 rd] 41); replace c0 := kcell hb c0; replace c1 := kcell hb c1; replace x0 := kcell hb x0; replace x1 := kcell hb x1; replace hB := bstep hB (Nat.le_refl _) hb; clear hb)
      generalize w8.alloc (Obj.cells #[.int .u64 rn, .int .u64 rd] 41) = w9 at *
      (have aft_c0 := Aft.cell c0; have aft_c1 := Aft.cell c1; have aft_x0 := Aft.cell x0; have aft_x1 := Aft.cell x1; refine wp_region_aft (by kernel_rfl) (by kernel_rfl) ?_; (repeat (go_big_quiet_step ((first | (go_at_call 9; with_reducible exact aft_call (hLn.out _ HT)) | (go_at_call 10; with_reducible exact aft_call (hMn.out _ HT)) | (go_at_call 11; with_reducible exact aft_call (awake_any _)))))); refine wpQuiet_nil ?_; clear aft_c0 aft_c1 aft_x0 aft_x1; intro w10 hw2_; have hb := Aft.below hw2_; clear hw2_)
      replace hB := bstep hB (Nat.le_refl _) hb
      go_wp2_with fail
      go_ret
      exact ⟨rfl, hB⟩

theorem supplyGives_all (b p t : Int) (w : World) :
    Calls Try.prog 6 #[.agg #[.int .i64 b, .int .i64 p], .int .i64 t] w fun e w' => e = .returned (.bool true) ∧ Below w.heap.size w w' := by
  by_cases h : 1 ≤ b ∧ b ≤ p ∧ p ≤ 1048576
  · obtain ⟨B, rfl⟩ := Int.eq_ofNat_of_zero_le (show 0 ≤ b by omega)
    obtain ⟨P, rfl⟩ := Int.eq_ofNat_of_zero_le (show 0 ≤ p by omega)
    exact gives_yes B P t w (by omega) (by omega) (by omega)
  · exact gives_no b p t w (resB_f h)
end Go.Proofs.Ytdpjencnfladlaa
