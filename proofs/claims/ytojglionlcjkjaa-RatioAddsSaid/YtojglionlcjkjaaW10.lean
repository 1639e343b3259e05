/- Walk: the statement RatioAdds. -/
import Derived.Test.YtojglionlcjkjaaW6
import Derived.Test.YtojglionlcjkjaaW7b
namespace Go.Proofs.Ytojglionlcjkjaa
open Go.RowKit

set_option maxRecDepth 100000 in
set_option maxHeartbeats 4000000 in
theorem adds_any (an ad bn bd : Nat) (w : World) (h1 : an < 18446744073709551616) (h2 : ad < 18446744073709551616) (h3 : bn < 18446744073709551616) (h4 : bd < 18446744073709551616) :
    Calls Try.prog 3 #[.agg #[.int .u64 an, .int .u64 ad], .agg #[.int .u64 bn, .int .u64 bd]] w fun e w' => e = .returned (.bool true) ∧ Below w.heap.size w w' := by
  have b0 : Blk ((w.alloc (Obj.cells #[.int .u64 an, .int .u64 ad] 24)).alloc (Obj.cells #[.int .u64 bn, .int .u64 bd] 24)) w.heap.size 24 #[.int .u64 an, .int .u64 ad] := (Blk.new _ _ _).alloc _
  have b1 : Blk ((w.alloc (Obj.cells #[.int .u64 an, .int .u64 ad] 24)).alloc (Obj.cells #[.int .u64 bn, .int .u64 bd] 24)) (w.heap.size + 1) 24 #[.int .u64 bn, .int .u64 bd] := Blk.new' _ _ _ (by simp)
  have c0 := b0.cell 0 (.int .u64 an) rfl
  have c1 := b0.cell 1 (.int .u64 ad) rfl
  have c2 := b1.cell 0 (.int .u64 bn) rfl
  have c3 := b1.cell 1 (.int .u64 bd) rfl
  clear b0 b1
  have hB : Below w.heap.size w ((w.alloc (Obj.cells #[.int .u64 an, .int .u64 ad] 24)).alloc (Obj.cells #[.int .u64 bn, .int .u64 bd] 24)) := (below1 _ _).alloc (by simp) _
  have hA := Lib.hid (fun W => add_any an ad bn bd W h1 h2 h3 h4)
  have hR := Lib.hid (fun W => refAdd_any an ad bn bd W h1 h2 h3 h4)
  generalize addR an ad bn bd = t at *
  obtain ⟨tn, td, te⟩ := t
  simp only [r3V] at hA hR
  have hte : ((te : Int) == (te : Int)) = true := by simp
  go_enter Try.func3, Try.ntmps3
  go_wp2_with fail
  generalize ((w.alloc (Obj.cells #[.int .u64 an, .int .u64 ad] 24)).alloc (Obj.cells #[.int .u64 bn, .int .u64 bd] 24)) = W0 at *
  have aft_c0 := Aft.cell c0
  have aft_c1 := Aft.cell c1
  have aft_c2 := Aft.cell c2
  have aft_c3 := Aft.cell c3
  refine wp_region_soft [5] (fun _ => ⟨25, fun g => .pointer (some ⟨g, 0, none⟩), #[.int .u64 0, .int .u64 0], #[.int .u64 tn, .int .u64 td]⟩) 35 (by kernel_rfl) (by kernel_rfl) (by rfl) ?_
  repeat (first | (refine sh_q (by rfl) (by rfl) (by rfl) (fun K hK => ?_); go_big_quiet_op; refine hK _ ?_; clear hK K) | (refine sh_skip (by rfl) (by rfl) ?_; (try simp only [Act.put, List.setIfInBounds_toArray, List.set_cons_zero, List.set_cons_succ])) | (refine sh_call (by rfl) (by rfl) (by rfl) (fun K hK => ?_); go_simp; (try simp only [CUp, true_and]); first | (apply Exists.intro; refine ⟨fun n => ?_, hK _ ?_⟩; (with_reducible exact to_any _ _ _); clear hK K; (try simp only [Act.put, List.setIfInBounds_toArray, List.set_cons_zero, List.set_cons_succ])) | (apply Exists.intro; refine ⟨fun n => ?_, hK _ ?_⟩; (with_reducible exact hA.out _); clear hK K; (try simp only [Act.put, List.setIfInBounds_toArray, List.set_cons_zero, List.set_cons_succ])) | (apply Exists.intro; refine ⟨fun n => rfl, hK _ ?_⟩; clear hK K; (try simp only [Act.put, List.setIfInBounds_toArray, List.set_cons_zero, List.set_cons_succ]))) | (refine sh_m 5 (by rfl) (fun n => by go_simp) ?_; (try simp only [Act.put, List.setIfInBounds_toArray, List.set_cons_zero, List.set_cons_succ])) | (refine sh_s 5 (by rfl) (fun g w hb => ⟨((w.setCell ⟨g, 0, none⟩ (.int .u64 tn)).setCell ⟨g, 1, none⟩ (.int .u64 td)), by (have b0 := hb.cell 0 (.int .u64 0) rfl; have f0 := hb.frozen 0; have b1 := hb.cell 1 (.int .u64 0) rfl; have f1 := hb.frozen 1; go_simp), by (have hb2 := ((hb.set_ 0 (.int .u64 tn)).set_ 1 (.int .u64 td)); simpa using hb2), only_set (only_set (only_refl w g) 0 (.int .u64 tn)) 1 (.int .u64 td)⟩) ?_; (try simp only [Act.put, List.setIfInBounds_toArray, List.set_cons_zero, List.set_cons_succ])))
  refine sh_end ?_
  intro γ w2 hb hmem hinj
  have hm5 := hmem 5 (by simp)
  clear hmem hinj aft_c0 aft_c1 aft_c2 aft_c3
  simp only [putM, Act.put, List.setIfInBounds_toArray, List.set_cons_zero, List.set_cons_succ]
  generalize γ 5 = g5 at *
  clear γ
  (replace c0 := kcell hb c0; replace c1 := kcell hb c1; replace c2 := kcell hb c2; replace c3 := kcell hb c3; replace hB := bstep hB (Nat.le_refl _) hb; clear hb)
  obtain ⟨hg5, b5⟩ := hm5
  have x0 := b5.cell 0 (.int .u64 tn) rfl
  have x1 := b5.cell 1 (.int .u64 td) rfl
  clear b5
  go_wp2_with fail
  refine (hR.out _).mono ?_
  rintro e w3 ⟨rfl, hb⟩
  (replace x0 := kcell hb x0; replace x1 := kcell hb x1; replace hB := bstep hB (Nat.le_refl _) hb; clear hb)
  have hg : g5 < w3.heap.size := World.block_lt_of_cell? _ _ x0
  go_wp2_with fail
  have b7 := Blk.new w3 24 #[.int .u64 tn, .int .u64 td]
  (have hb := below1 w3 (Obj.cells #[.int .u64 tn, .int .u64 td] 24); replace x0 := kcell hb x0; replace x1 := kcell hb x1; replace hB := bstep hB (Nat.le_refl _) hb; clear hb)
  generalize w3.alloc (Obj.cells #[.int .u64 tn, .int .u64 td] 24) = w4 at *
  generalize w3.heap.size = g7 at *
  have y0 := b7.cell 0 (.int .u64 tn) rfl
  have y1 := b7.cell 1 (.int .u64 td) rfl
  clear b7
  (have aft_x0 := Aft.cell x0; have aft_x1 := Aft.cell x1; have aft_y0 := Aft.cell y0; have aft_y1 := Aft.cell y1; refine wp_region_aft (by kernel_rfl) (by kernel_rfl) ?_; (repeat (go_big_quiet_step ((first | (go_at_call 8; with_reducible exact aft_call (to_any _ _ _)) | (go_at_call 10; with_reducible exact aft_call (awake_any _)))))); refine wpQuiet_nil ?_; clear aft_x0 aft_x1 aft_y0 aft_y1; intro w5 hw2_; have hb := Aft.below hw2_; clear hw2_)
  replace hB := bstep hB (Nat.le_refl _) hb
  go_wp2
  go_ret
  exact ⟨rfl, hB⟩
end Go.Proofs.Ytojglionlcjkjaa
