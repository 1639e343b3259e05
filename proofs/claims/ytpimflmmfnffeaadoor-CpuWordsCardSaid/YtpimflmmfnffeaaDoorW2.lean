/- Walks: the fields of an instruction's word; Word. -/
import Derived.Test.YtpimflmmfnffeaaDoorM1
import Derived.Test.YtpimflmmfnffeaaDoorGrand2
namespace Go.Proofs.YtpimflmmfnffeaaDoor
open Go.RowKit

/-- a new block reads as a list -/
theorem Sl.lit {α : Type} {enc : α → List Value} {sz : Nat} (he : EncOk enc sz) (w : World) (xs : List α) (cs : Array Value) (hcs : cs.toList = xs.flatMap enc) (t : TypeId) : Sl enc sz (w.alloc (.cells cs t)) (some ⟨w.heap.size, 0, none⟩) xs := fun _ => by
  refine ⟨w.heap.size, 0, rfl, fun i x j u hx hu => ?_⟩
  have hj : j < sz := by rw [← he.len x]; exact (List.getElem?_eq_some_iff.1 hu).1
  have h1 := cell_of_row (w.alloc (.cells cs t)) w.heap.size (i * sz + j) cs t (0, 0) (heap_alloc_new w _)
  rw [Nat.zero_add, h1, ← Array.getElem?_toList, hcs, flat_at he.len xs i x j hx hj, hu]
def partsA : Array Value := #[.int .i64 0, .int .i64 8, .int .i64 8, .int .i64 4, .int .i64 12, .int .i64 4, .int .i64 16, .int .i64 4, .int .i64 20, .int .i64 44]
theorem parts_any (w : World) : Calls Tryd.prog 15 #[] w fun e w' => e = .returned (.slice (some ⟨w.heap.size, 0, none⟩) 5 5) ∧ w' = w.alloc (.cells partsA 64) := by
  go_enter Tryd.func15, Tryd.ntmps15
  go_wp2
  go_ret
  exact ⟨rfl, rfl⟩
/-- the slices that Word makes: the fields (slot 7), the numbers (slot 22) -/
def WordS (L : List Int) (d : Nat) (v : Value) (w : World) : Prop := ∃ G, v = .slice (some ⟨G, 0, none⟩) 5 5 ∧ if d = 7 then Sl eF 2 w (some ⟨G, 0, none⟩) partsL else Sl eU 1 w (some ⟨G, 0, none⟩) L
theorem WordS.keep {L : List Int} {d : Nat} {v : Value} {w w' : World} (h : WordS L d v w) (hz : Keeps w w') : WordS L d v w' := by
  obtain ⟨G, e, h⟩ := h
  refine ⟨G, e, ?_⟩
  split at h
  · rename_i hd; rw [if_pos hd]; exact h.keep hz
  · rename_i hd; rw [if_neg hd]; exact h.keep hz
theorem wordS_parts (L : List Int) (w : World) : WordS L 7 (.slice (some ⟨w.heap.size, 0, none⟩) 5 5) (w.alloc (.cells partsA 64)) := ⟨_, rfl, by rw [if_pos rfl]; exact Sl.lit eF_ok w partsL _ rfl _⟩
theorem wordS_nums (L : List Int) (w : World) (cs : Array Value) (hcs : cs.toList = L.flatMap eU) (hl : L.length = 5) : WordS L 22 (.slice (some ⟨w.heap.size, 0, none⟩) 5 5) (w.alloc (.cells cs 22)) := ⟨_, rfl, by rw [if_neg (by decide)]; exact Sl.lit eU_ok w L _ hcs _⟩
theorem wordS_7 {L : List Int} {v : Value} {w : World} (h : WordS L 7 v w) : ∃ G, v = .slice (some ⟨G, 0, none⟩) 5 5 ∧ Sl eF 2 w (some ⟨G, 0, none⟩) partsL := by
  obtain ⟨G, e, h⟩ := h
  rw [if_pos rfl] at h
  exact ⟨G, e, h⟩
theorem wordS_22 {L : List Int} {v : Value} {w : World} (h : WordS L 22 v w) : ∃ G, v = .slice (some ⟨G, 0, none⟩) 5 5 ∧ Sl eU 1 w (some ⟨G, 0, none⟩) L := by
  obtain ⟨G, e, h⟩ := h
  rw [if_neg (by decide)] at h
  exact ⟨G, e, h⟩
theorem word_no (op a b c n : Int) (w : World) (hn : 0 ≤ n) (h : rightI op a b c n = false) : Calls Tryd.prog 5 #[.agg #[.int .i64 op, .int .i64 a, .int .i64 b, .int .i64 c, .int .u64 n]] w fun e w' => e = .returned (.tuple #[.int .u64 0, .int .i64 1]) ∧ Below w.heap.size w w' := by
  have hR := Lib.hid (fun W => right_inst op a b c n W hn)
  rw [h] at hR
  go_enter Tryd.func5, Tryd.ntmps5
  go_wp2_with (go_at_call 8; (with_reducible refine (hR.out _).mono ?_); rintro e w2 ⟨rfl, hb⟩)
  go_ret2
  exact ⟨rfl, bstep (below1 _ _) (Nat.le_refl _) hb⟩
set_option maxRecDepth 100000 in
set_option maxHeartbeats 4000000 in
theorem word_yes (op a b c n : Nat) (w : World) (h : rightI op a b c n = true) : Calls Tryd.prog 5 #[.agg #[.int .i64 op, .int .i64 a, .int .i64 b, .int .i64 c, .int .u64 n]] w fun e w' => e = .returned (.tuple #[.int .u64 (wordI op a b c n), .int .i64 0]) ∧ Below w.heap.size w w' := by
  have hR := Lib.hid (fun W => right_inst op a b c n W (by omega))
  rw [h] at hR
  have hq := rightI_t h
  have HJ : Hid (∀ (W : World) (G1 G2 : Nat), Sl eF 2 W (some ⟨G1, 0, none⟩) partsL → Sl eU 1 W (some ⟨G2, 0, none⟩) [(op : Int), (a : Int), (b : Int), (c : Int), (n : Int)] → Calls Tryd.prog 14 #[.slice (some ⟨G1, 0, none⟩) 5 5, .slice (some ⟨G2, 0, none⟩) 5 5] W fun e w' => e = .returned (.tuple #[.int .u64 (wordI op a b c n), .int .i64 0]) ∧ Below W.heap.size W w') := fun W G1 G2 h1 h2 => by
    rw [← join_parts op a b c n (by omega) (by omega) (by omega) (by omega) (by omega)]
    exact join_any _ _ partsL [(op : Int), (a : Int), (b : Int), (c : Int), (n : Int)] 5 5 _ h1 h2 rfl (by decide) (by simp)
  have u0 : IntKind.u64.wrap (op : Int) = op := by rw [IntKind.wrap_u64]; omega
  have u1 : IntKind.u64.wrap (a : Int) = a := by rw [IntKind.wrap_u64]; omega
  have u2 : IntKind.u64.wrap (b : Int) = b := by rw [IntKind.wrap_u64]; omega
  have u3 : IntKind.u64.wrap (c : Int) = c := by rw [IntKind.wrap_u64]; omega
  have hB := below1 w (Obj.cells #[.int .i64 op, .int .i64 a, .int .i64 b, .int .i64 c, .int .u64 n] 27)
  have bk := Blk.new w 27 #[.int .i64 op, .int .i64 a, .int .i64 b, .int .i64 c, .int .u64 n]
  clear h hq
  go_enter Tryd.func5, Tryd.ntmps5
  go_wp2_with (go_at_call 8; (with_reducible refine (hR.out _).mono ?_); rintro e w2 ⟨rfl, hb⟩)
  replace bk := bk.keep hb
  replace hB := bstep hB (by simp) hb
  clear hb
  have c0 := bk.cell 0 (.int .i64 op) rfl
  have c1 := bk.cell 1 (.int .i64 a) rfl
  have c2 := bk.cell 2 (.int .i64 b) rfl
  have c3 := bk.cell 3 (.int .i64 c) rfl
  have c4 := bk.cell 4 (.int .u64 n) rfl
  obtain ⟨bx, hbx⟩ : ∃ k, k = w.heap.size := ⟨_, rfl⟩
  rw [← hbx] at bk hB c0 c1 c2 c3 c4 ⊢
  replace hbx : Hid (bx = w.heap.size) := hbx
  have aft_c0 := cw_cell c0
  have aft_c1 := cw_cell c1
  have aft_c2 := cw_cell c2
  have aft_c3 := cw_cell c3
  have aft_c4 := cw_cell c4
  refine wp_region_grand (Keeps _) (fun _ => Keeps) [7, 22] (WordS [(op : Int), (a : Int), (b : Int), (c : Int), (n : Int)]) [] [] 26 (keeps_drew _) (fun _ _ _ h hz => keeps_trans h hz) (fun _ d hd _ v w w' _ h hz => WordS.keep h hz) (by kernel_rfl) (by kernel_rfl) (by rfl) ?_
  repeat (first | (refine gr_row (by rfl) ?_; (try simp only [Act.put, List.setIfInBounds_toArray, List.set_cons_zero, List.set_cons_succ])) | (refine gr_free (by rfl) (by rfl) (by rfl) (by rfl) (by rfl) (fun K hK => ?_); go_big_quiet_op; refine hK _ ?_; clear hK K) | (refine gr_q (by rfl) (by rfl) (by rfl) (by rfl) (by rfl) (by rfl) (fun K hK => ?_); go_big_quiet_op; refine hK _ ?_; clear hK K) | (refine gr_no (by rfl) (by rfl) (by rfl) ?_; (try simp only [Act.put, List.setIfInBounds_toArray, List.set_cons_zero, List.set_cons_succ])) | (refine gr_call (by rfl) (by rfl) (by rfl) (by rfl) (by rfl) (fun K hK => ?_); go_simp; (try simp only [RUp, true_and]); first | (apply Exists.intro; refine ⟨fun n => rfl, hK _ ?_⟩; clear hK K; (try simp only [Act.put, List.setIfInBounds_toArray, List.set_cons_zero, List.set_cons_succ]))) | (refine gr_n 7 [] (by rfl) (by rfl) (by rfl) (by rfl) (fun γ w hC hT => ?_) ?_; ((try simp only [putG]); go_simp; exact gup_f ((parts_any w).mono fun e w'' hw => ⟨_, hw.1, by rw [hw.2]; exact below1 w _, by rw [hw.2]; exact wordS_parts _ w⟩)); (try simp only [Act.put, List.setIfInBounds_toArray, List.set_cons_zero, List.set_cons_succ])) | (refine gr_n 22 [] (by rfl) (by rfl) (by rfl) (by rfl) (fun γ w hC hT => ?_) ?_; (simp only [putG]; go_simp; exact gup_v (below1 w _) (wordS_nums _ w _ rfl rfl)); (try simp only [Act.put, List.setIfInBounds_toArray, List.set_cons_zero, List.set_cons_succ])) | (refine gr_u (.tuple #[.int .u64 (wordI op a b c n), .int .i64 0]) [7, 22] (by rfl) (by rfl) (by rfl) (by simp) (by rfl) (fun γ w hC hT => ?_) ?_; (obtain ⟨G1, e1, h1⟩ := wordS_7 (hT 7 (by simp)); obtain ⟨G2, e2, h2⟩ := wordS_22 (hT 22 (by simp)); simp only [putG, Act.put, List.setIfInBounds_toArray, List.set_cons_zero, List.set_cons_succ, e1, e2]; go_simp; exact gup_f ((HJ.out _ G1 G2 h1 h2).mono fun e w'' hw => ⟨_, hw.1, hw.2, rfl⟩)); (try simp only [Act.put, List.setIfInBounds_toArray, List.set_cons_zero, List.set_cons_succ])))
  refine gr_end ?_
  intro γ w5 hb5 hT
  clear aft_c0 aft_c1 aft_c2 aft_c3 aft_c4
  simp only [putG, Act.put, List.setIfInBounds_toArray, List.set_cons_zero, List.set_cons_succ]
  refine only_end ?_
  go_wp2_with fail
  go_ret2
  have hbx := hbx.out
  exact ⟨rfl, hbx ▸ bstep hB (by have := bk.lt; omega) hb5⟩
end Go.Proofs.YtpimflmmfnffeaaDoor
