/- Walk: the statement CallWords. -/
import Derived.Test.YtjojnfnjekjjnaaDoorD1
namespace Go.Proofs.YtjojnfnjekjjnaaDoor
open Go.RowKit

/-- the table of names lies in block 0 -/
def Names (w : World) : Prop := ∀ i, i ≤ 19 → w.cell? ⟨0, i, none⟩ = some (.string (nameS i))
theorem Names.keep {w w' : World} (h : Names w) (hb : Below w.heap.size w w') : Names w' := fun i hi => kcell hb (h i hi)
theorem get_word (n0 n1 n2 n3 n4 : Nat) (h0 : n0 ≤ 19) (h1 : n1 ≤ 255) (h2 : n2 ≤ 255) (h3 : n3 ≤ 1048575) (h4 : n4 ≤ 1048575) (x : Nat) (hx : (x : Int) = wordI n0 n1 n2 n3 n4) : x < 18446744073709551616 ∧ partsL.map (getF · (x : Int)) = [(n0 : Int), (n1 : Int), (n2 : Int), (n3 : Int), (n4 : Int)] := by
  have hx2 : x = n0 + 256 * n1 + 65536 * n2 + 16777216 * n3 + 17592186044416 * n4 := by unfold wordI at hx; omega
  have hlt : x < 18446744073709551616 := by omega
  refine ⟨hlt, ?_⟩
  rw [get_parts x hlt]
  have a0 : x % 256 = n0 := by omega
  have a1 : x / 256 % 256 = n1 := by omega
  have a2 : x / 65536 % 256 = n2 := by omega
  have a3 : x / 16777216 % 1048576 = n3 := by omega
  have a4 : x / 17592186044416 = n4 := by omega
  rw [a0, a1, a2, a3, a4]

set_option maxRecDepth 100000 in
set_option maxHeartbeats 4000000 in
theorem words_no (n0 n1 n2 n3 n4 : Int) (w : World) (hn : Names w) (h : rightC n0 n1 n2 n3 n4 = false) :
    Calls Tryd.prog 3 #[.agg #[.int .i64 n0, .int .i64 n1, .int .i64 n2, .int .i64 n3, .int .i64 n4]] w fun e w' => e = .returned (.bool true) ∧ Below w.heap.size w w' := by
  have HT := Lib.hid (fun W => to_any n0 n1 n2 n3 n4 W)
  have HW := Lib.hid (fun W => word_no n0 n1 n2 n3 n4 W h)
  have HR := Lib.hid (fun W => right_call n0 n1 n2 n3 n4 W)
  have HQ := Lib.hid (fun W => refRight_any n0 n1 n2 n3 n4 W)
  rw [h] at HR HQ
  obtain ⟨s, HN, HM⟩ : ∃ s : ByteArray, Hid (∀ W, Names W → Calls Tryd.prog 8 #[.int .i64 n0] W fun e w' => e = .returned (.string s) ∧ W = w') ∧ Hid (∀ W : World, Calls Tryd.prog 9 #[.int .i64 n0] W fun e w' => e = .returned (.string s) ∧ Below W.heap.size W w') := by
    by_cases h0 : 0 ≤ n0 ∧ n0 ≤ 19
    · obtain ⟨k, rfl⟩ := Int.eq_ofNat_of_zero_le h0.1
      exact ⟨_, fun W hW => name_yes k W (by omega) (hW k (by omega)), fun W => refName_yes k W (by omega)⟩
    · exact ⟨_, fun W _ => name_no n0 W h0, fun W => refName_no n0 W h0⟩
  clear h
  have hB := below1 w (Obj.cells #[.int .i64 n0, .int .i64 n1, .int .i64 n2, .int .i64 n3, .int .i64 n4] 24)
  have bk := Blk.new w 24 #[.int .i64 n0, .int .i64 n1, .int .i64 n2, .int .i64 n3, .int .i64 n4]
  replace hn := hn.keep hB
  go_enter Tryd.func3, Tryd.ntmps3
  go_wp2_with fail
  generalize w.alloc (Obj.cells #[.int .i64 n0, .int .i64 n1, .int .i64 n2, .int .i64 n3, .int .i64 n4] 24) = w1 at *
  refine (HT.out _).mono ?_
  rintro e w2 ⟨rfl, hb⟩
  replace hB := bstep hB (Nat.le_refl _) hb
  replace bk := bk.keep hb
  replace hn := hn.keep hb
  clear hb
  go_wp2_with fail
  refine (HW.out _).mono ?_
  rintro e w3 ⟨rfl, hb⟩
  replace hB := bstep hB (Nat.le_refl _) hb
  replace bk := bk.keep hb
  replace hn := hn.keep hb
  clear hb
  have c0 := bk.cell 0 (.int .i64 n0) rfl
  have c1 := bk.cell 1 (.int .i64 n1) rfl
  have c2 := bk.cell 2 (.int .i64 n2) rfl
  have c3 := bk.cell 3 (.int .i64 n3) rfl
  have c4 := bk.cell 4 (.int .i64 n4) rfl
  have HN3 : Hid (∀ m : Aft w3, Calls Tryd.prog 8 #[.int .i64 n0] m.w fun e w' => e = .returned (.string s) ∧ m.w = w') := fun m => HN.out m.w (hn.keep m.ok)
  go_wp2_with fail
  (have aft_c0 := Aft.cell c0; have aft_c1 := Aft.cell c1; have aft_c2 := Aft.cell c2; have aft_c3 := Aft.cell c3; have aft_c4 := Aft.cell c4; refine wp_region_aft (by kernel_rfl) (by kernel_rfl) ?_; (repeat (go_big_quiet_step ((first | (go_at_call 4; with_reducible exact aft_call (HT.out _)) | (go_at_call 6; with_reducible exact aft_call (HR.out _)) | (go_at_call 7; with_reducible exact aft_call (HQ.out _)) | (go_at_call 8; with_reducible exact aft_same (HN3.out _)) | (go_at_call 9; with_reducible exact aft_call (HM.out _)))))); refine wpQuiet_nil ?_; clear aft_c0 aft_c1 aft_c2 aft_c3 aft_c4; intro w4 hw2_; have hb := Aft.below hw2_; clear hw2_)
  replace hB := bstep hB (Nat.le_refl _) hb
  replace bk := bk.keep hb
  clear hb c0 c1 c2 c3 c4 HN3 hn
  have c0 := bk.cell 0 (.int .i64 n0) rfl
  have c1 := bk.cell 1 (.int .i64 n1) rfl
  have c2 := bk.cell 2 (.int .i64 n2) rfl
  have c3 := bk.cell 3 (.int .i64 n3) rfl
  have c4 := bk.cell 4 (.int .i64 n4) rfl
  go_wp2_with fail
  refine (HQ.out _).mono ?_
  rintro e w5 ⟨rfl, hb⟩
  replace hB := bstep hB (Nat.le_refl _) hb
  replace bk := bk.keep hb
  clear hb c0 c1 c2 c3 c4
  go_wp2_with fail
  refine (awake_any _).mono ?_
  rintro e w6 ⟨rfl, hb⟩
  go_wp2_with fail
  go_ret
  exact ⟨rfl, bstep hB (Nat.le_refl _) hb⟩

set_option maxRecDepth 100000 in
set_option maxHeartbeats 4000000 in
theorem words_yes (n0 n1 n2 n3 n4 x : Nat) (w : World) (hn : Names w) (h : rightC n0 n1 n2 n3 n4 = true) (hx : (x : Int) = wordI n0 n1 n2 n3 n4) :
    Calls Tryd.prog 3 #[.agg #[.int .i64 n0, .int .i64 n1, .int .i64 n2, .int .i64 n3, .int .i64 n4]] w fun e w' => e = .returned (.bool true) ∧ Below w.heap.size w w' := by
  have hr := rightC_t h
  have HT := Lib.hid (fun W => to_any n0 n1 n2 n3 n4 W)
  have HW := Lib.hid (fun W => word_yes n0 n1 n2 n3 n4 W h)
  have HR := Lib.hid (fun W => right_call n0 n1 n2 n3 n4 W)
  have HQ := Lib.hid (fun W => refRight_any n0 n1 n2 n3 n4 W)
  have hg := get_word n0 n1 n2 n3 n4 (by omega) (by omega) (by omega) (by omega) (by omega) x hx
  have HP := Lib.hid (fun W => parse_num x n0 n1 n2 n3 n4 W hg.1 hg.2 (by omega) _ h)
  have HV := Lib.hid (fun W => refWord_yes n0 n1 n2 n3 n4 W (by omega) (by omega) (by omega) (by omega) (by omega))
  rw [h] at HR HQ
  rw [← hx] at HW HV
  simp only [if_true] at HP
  obtain ⟨s, HN, HM⟩ : ∃ s : ByteArray, Hid (∀ W, Names W → Calls Tryd.prog 8 #[.int .i64 n0] W fun e w' => e = .returned (.string s) ∧ W = w') ∧ Hid (∀ W : World, Calls Tryd.prog 9 #[.int .i64 n0] W fun e w' => e = .returned (.string s) ∧ Below W.heap.size W w') :=
    ⟨_, fun W hW => name_yes n0 W (by omega) (hW n0 (by omega)), fun W => refName_yes n0 W (by omega)⟩
  clear h hr hg hx
  have hB := below1 w (Obj.cells #[.int .i64 n0, .int .i64 n1, .int .i64 n2, .int .i64 n3, .int .i64 n4] 24)
  have bk := Blk.new w 24 #[.int .i64 n0, .int .i64 n1, .int .i64 n2, .int .i64 n3, .int .i64 n4]
  replace hn := hn.keep hB
  go_enter Tryd.func3, Tryd.ntmps3
  go_wp2_with fail
  generalize w.alloc (Obj.cells #[.int .i64 n0, .int .i64 n1, .int .i64 n2, .int .i64 n3, .int .i64 n4] 24) = w1 at *
  refine (HT.out _).mono ?_
  rintro e w2 ⟨rfl, hb⟩
  replace hB := bstep hB (Nat.le_refl _) hb
  replace bk := bk.keep hb
  replace hn := hn.keep hb
  clear hb
  go_wp2_with fail
  refine (HW.out _).mono ?_
  rintro e w3 ⟨rfl, hb⟩
  replace hB := bstep hB (Nat.le_refl _) hb
  replace bk := bk.keep hb
  replace hn := hn.keep hb
  clear hb
  have c0 := bk.cell 0 (.int .i64 n0) rfl
  have c1 := bk.cell 1 (.int .i64 n1) rfl
  have c2 := bk.cell 2 (.int .i64 n2) rfl
  have c3 := bk.cell 3 (.int .i64 n3) rfl
  have c4 := bk.cell 4 (.int .i64 n4) rfl
  have HN3 : Hid (∀ m : Aft w3, Calls Tryd.prog 8 #[.int .i64 n0] m.w fun e w' => e = .returned (.string s) ∧ m.w = w') := fun m => HN.out m.w (hn.keep m.ok)
  go_wp2_with fail
  (have aft_c0 := Aft.cell c0; have aft_c1 := Aft.cell c1; have aft_c2 := Aft.cell c2; have aft_c3 := Aft.cell c3; have aft_c4 := Aft.cell c4; refine wp_region_aft (by kernel_rfl) (by kernel_rfl) ?_; (repeat (go_big_quiet_step ((first | (go_at_call 4; with_reducible exact aft_call (HT.out _)) | (go_at_call 6; with_reducible exact aft_call (HR.out _)) | (go_at_call 7; with_reducible exact aft_call (HQ.out _)) | (go_at_call 8; with_reducible exact aft_same (HN3.out _)) | (go_at_call 9; with_reducible exact aft_call (HM.out _)))))); refine wpQuiet_nil ?_; clear aft_c0 aft_c1 aft_c2 aft_c3 aft_c4; intro w4 hw2_; have hb := Aft.below hw2_; clear hw2_)
  replace hB := bstep hB (Nat.le_refl _) hb
  replace bk := bk.keep hb
  clear hb c0 c1 c2 c3 c4 HN3 hn
  have c0 := bk.cell 0 (.int .i64 n0) rfl
  have c1 := bk.cell 1 (.int .i64 n1) rfl
  have c2 := bk.cell 2 (.int .i64 n2) rfl
  have c3 := bk.cell 3 (.int .i64 n3) rfl
  have c4 := bk.cell 4 (.int .i64 n4) rfl
  go_wp2_with fail
  refine (HQ.out _).mono ?_
  rintro e w5 ⟨rfl, hb⟩
  replace hB := bstep hB (Nat.le_refl _) hb
  replace bk := bk.keep hb
  clear hb c0 c1 c2 c3 c4
  go_wp2_with fail
  refine (HP.out _).mono ?_
  rintro e w6 ⟨rfl, hb⟩
  replace hB := bstep hB (Nat.le_refl _) hb
  replace bk := bk.keep hb
  clear hb
  go_wp2_with fail
  have bk2 := Blk.new w6 29 #[.int .i64 n0, .int .i64 n1, .int .i64 n2, .int .i64 n3, .int .i64 n4]
  replace bk := bk.alloc (Obj.cells #[.int .i64 n0, .int .i64 n1, .int .i64 n2, .int .i64 n3, .int .i64 n4] 29)
  replace hB := hB.alloc hB.size (Obj.cells #[.int .i64 n0, .int .i64 n1, .int .i64 n2, .int .i64 n3, .int .i64 n4] 29)
  generalize w6.alloc (Obj.cells #[.int .i64 n0, .int .i64 n1, .int .i64 n2, .int .i64 n3, .int .i64 n4] 29) = w7 at *
  generalize w6.heap.size = g7 at *
  have c0 := bk.cell 0 (.int .i64 n0) rfl
  have c1 := bk.cell 1 (.int .i64 n1) rfl
  have c2 := bk.cell 2 (.int .i64 n2) rfl
  have c3 := bk.cell 3 (.int .i64 n3) rfl
  have c4 := bk.cell 4 (.int .i64 n4) rfl
  have d0 := bk2.cell 0 (.int .i64 n0) rfl
  have d1 := bk2.cell 1 (.int .i64 n1) rfl
  have d2 := bk2.cell 2 (.int .i64 n2) rfl
  have d3 := bk2.cell 3 (.int .i64 n3) rfl
  have d4 := bk2.cell 4 (.int .i64 n4) rfl
  (have aft_c0 := Aft.cell c0; have aft_c1 := Aft.cell c1; have aft_c2 := Aft.cell c2; have aft_c3 := Aft.cell c3; have aft_c4 := Aft.cell c4; have aft_d0 := Aft.cell d0; have aft_d1 := Aft.cell d1; have aft_d2 := Aft.cell d2; have aft_d3 := Aft.cell d3; have aft_d4 := Aft.cell d4; refine wp_region_aft (by kernel_rfl) (by kernel_rfl) ?_; (repeat (go_big_quiet_step ((first | (go_at_call 4; with_reducible exact aft_call (HT.out _)) | (go_at_call 12; with_reducible exact aft_call (HV.out _)) | (go_at_call 10; with_reducible exact aft_call (awake_any _)))))); refine wpQuiet_nil ?_; clear aft_c0 aft_c1 aft_c2 aft_c3 aft_c4 aft_d0 aft_d1 aft_d2 aft_d3 aft_d4; intro w8 hw2_; have hb := Aft.below hw2_; clear hw2_)
  replace hB := bstep hB (Nat.le_refl _) hb
  go_wp2_with fail
  go_ret
  exact ⟨rfl, hB⟩

theorem words_any (n0 n1 n2 n3 n4 : Int) (w : World) (hn : Names w) : Calls Tryd.prog 3 #[.agg #[.int .i64 n0, .int .i64 n1, .int .i64 n2, .int .i64 n3, .int .i64 n4]] w fun e w' => e = .returned (.bool true) ∧ Below w.heap.size w w' := by
  cases h : rightC n0 n1 n2 n3 n4
  · exact words_no n0 n1 n2 n3 n4 w hn h
  · have hr := rightC_t h
    obtain ⟨a, rfl⟩ := Int.eq_ofNat_of_zero_le hr.1.1
    obtain ⟨b, rfl⟩ := Int.eq_ofNat_of_zero_le hr.2.1.1
    obtain ⟨c, rfl⟩ := Int.eq_ofNat_of_zero_le hr.2.2.1.1
    obtain ⟨d, rfl⟩ := Int.eq_ofNat_of_zero_le hr.2.2.2.1.1
    obtain ⟨e, rfl⟩ := Int.eq_ofNat_of_zero_le hr.2.2.2.2.1
    obtain ⟨x, hx⟩ : ∃ x : Nat, (x : Int) = wordI a b c d e := ⟨(wordI a b c d e).toNat, by unfold wordI; omega⟩
    exact words_yes a b c d e x w hn h hx
end Go.Proofs.YtjojnfnjekjjnaaDoor
