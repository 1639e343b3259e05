/- Walks: the document's Want and Given. -/
import Derived.Test.YtdfklbjkcednhaaW14
namespace Go.Proofs.Ytdfklbjkcednhaa
open Go.RowKit Go.Lib

theorem results_cell_tmp {P : Program} {fn : Func} {a t : Tmp} {ty : TypeId} (h : fn.results = #[.cell a ty, .tmp t]) (tmps : Array Value) (w : World) (g : Nat) (M : List Value) (d : TypeDesc) (ha : tmps.getD a undef = .pointer (some ⟨g, 0, none⟩)) (hc : w.rangeAt g 0 M) (hu : P.underlying ty = some d) (hd : d.isRow = true) (hi : (P.info? ty).map (·.size) = some M.length) :
    (results fn tmps).run P w = .ok (.tuple #[.agg M.toArray, tmps.getD t undef]) w := by
  have := run_loadVar_mid (P := P) w g 0 ty M d hc hu hd hi
  rw [Array.getD_eq_getD_getElem?] at ha
  simp [results, h, ha, asAddr, this]
def zeroRd : Array Value := #[.slice none 0 0, .slice none 0 0, .slice none 0 0, .slice none 0 0, .slice none 0 0, .slice none 0 0, .slice none 0 0, .slice none 0 0, .slice none 0 0]
theorem zero_rd : ∀ w, (zeroValue 47).run Try.prog w = .ok (.agg zeroRd) w := fun w => by kernel_rfl
/-- a box of the document's board, and the result's, behind each other -/
theorem rd_boxes (x : Rd) (w : World) (h : RdOk w x) (n : Nat) (hn : w.heap.size = n) :
    Blk ((w.alloc (Obj.cells (eRd x).toArray 47)).alloc (Obj.cells zeroRd 47)) n 47 (eRd x).toArray ∧
    Blk ((w.alloc (Obj.cells (eRd x).toArray 47)).alloc (Obj.cells zeroRd 47)) (n + 1) 47 zeroRd ∧
    Below w.heap.size w ((w.alloc (Obj.cells (eRd x).toArray 47)).alloc (Obj.cells zeroRd 47)) := by
  subst hn
  exact ⟨(Blk.new w _ _).alloc _, Blk.new' _ _ _ (by simp), (below1 _ _).alloc (by simp) _⟩

set_option maxRecDepth 100000 in
set_option maxHeartbeats 8000000 in
theorem rwant_bad (x : Rd) (env frm now k : Int) (w : World) (h : RdOk w x) (hw : ¬ wantOk env frm now k) :
    Calls Try.prog 12 #[.agg (eRd x).toArray, .int .i64 env, .int .i64 frm, .int .i64 now, .int .i64 k] w fun e w' => e = .returned (.tuple #[.agg (eRd x).toArray, .int .i64 1]) ∧ Below w.heap.size w w' := by
  have HW := Lib.hid hw
  obtain ⟨b0, b1, hB⟩ := rd_boxes x w h _ rfl
  have hz := zero_rd
  have hlen := eRd_len h
  have hone := eRd_one x
  clear h hw
  generalize eRd x = M at *
  have HX := Lib.hid (And.intro b0 (And.intro b1 (And.intro (rd_info M hlen) (And.intro (show zeroRd.size = M.length by rw [hlen]; rfl) hone))))
  have HF := Lib.hid (And.intro (b1.fill M (by rw [hlen]; rfl)) (below_only hB (grown_setCells (w.heap.size + 1) M 0 _ _ (only_refl _ _)) (by omega)))
  clear b0 b1 hB hlen hone
  by_cases e1 : env < 0
  · go_enter Try.func12, Try.ntmps12
    go_wp2_with (first | (refine wpList_load_mid rfl 47 _ rfl w.heap.size 0 rfl M _ HX.out.1.range Try.underlying47 rfl HX.out.2.2.1 ?_) | (refine wpList_store_mid rfl 47 _ _ rfl (w.heap.size + 1) 0 M.toArray rfl rfl (HX.out.2.1.there (by simp [HX.out.2.2.2.1])) (by simpa using HX.out.2.2.1) (all_oneCell_toArray HX.out.2.2.2.2) ?_))
    exact bodyPost_ret (results_cell_tmp rfl _ _ (w.heap.size + 1) M _ rfl HF.out.1.range Try.underlying47 rfl HX.out.2.2.1) rfl ⟨rfl, HF.out.2⟩
  by_cases e2 : 7 < env
  · go_enter Try.func12, Try.ntmps12
    go_wp2_with (first | (refine wpList_load_mid rfl 47 _ rfl w.heap.size 0 rfl M _ HX.out.1.range Try.underlying47 rfl HX.out.2.2.1 ?_) | (refine wpList_store_mid rfl 47 _ _ rfl (w.heap.size + 1) 0 M.toArray rfl rfl (HX.out.2.1.there (by simp [HX.out.2.2.2.1])) (by simpa using HX.out.2.2.1) (all_oneCell_toArray HX.out.2.2.2.2) ?_))
    exact bodyPost_ret (results_cell_tmp rfl _ _ (w.heap.size + 1) M _ rfl HF.out.1.range Try.underlying47 rfl HX.out.2.2.1) rfl ⟨rfl, HF.out.2⟩
  by_cases e3 : frm < 0
  · go_enter Try.func12, Try.ntmps12
    go_wp2_with (first | (refine wpList_load_mid rfl 47 _ rfl w.heap.size 0 rfl M _ HX.out.1.range Try.underlying47 rfl HX.out.2.2.1 ?_) | (refine wpList_store_mid rfl 47 _ _ rfl (w.heap.size + 1) 0 M.toArray rfl rfl (HX.out.2.1.there (by simp [HX.out.2.2.2.1])) (by simpa using HX.out.2.2.1) (all_oneCell_toArray HX.out.2.2.2.2) ?_))
    exact bodyPost_ret (results_cell_tmp rfl _ _ (w.heap.size + 1) M _ rfl HF.out.1.range Try.underlying47 rfl HX.out.2.2.1) rfl ⟨rfl, HF.out.2⟩
  by_cases e4 : 31 < frm
  · go_enter Try.func12, Try.ntmps12
    go_wp2_with (first | (refine wpList_load_mid rfl 47 _ rfl w.heap.size 0 rfl M _ HX.out.1.range Try.underlying47 rfl HX.out.2.2.1 ?_) | (refine wpList_store_mid rfl 47 _ _ rfl (w.heap.size + 1) 0 M.toArray rfl rfl (HX.out.2.1.there (by simp [HX.out.2.2.2.1])) (by simpa using HX.out.2.2.1) (all_oneCell_toArray HX.out.2.2.2.2) ?_))
    exact bodyPost_ret (results_cell_tmp rfl _ _ (w.heap.size + 1) M _ rfl HF.out.1.range Try.underlying47 rfl HX.out.2.2.1) rfl ⟨rfl, HF.out.2⟩
  by_cases e5 : now < 0
  · go_enter Try.func12, Try.ntmps12
    go_wp2_with (first | (refine wpList_load_mid rfl 47 _ rfl w.heap.size 0 rfl M _ HX.out.1.range Try.underlying47 rfl HX.out.2.2.1 ?_) | (refine wpList_store_mid rfl 47 _ _ rfl (w.heap.size + 1) 0 M.toArray rfl rfl (HX.out.2.1.there (by simp [HX.out.2.2.2.1])) (by simpa using HX.out.2.2.1) (all_oneCell_toArray HX.out.2.2.2.2) ?_))
    exact bodyPost_ret (results_cell_tmp rfl _ _ (w.heap.size + 1) M _ rfl HF.out.1.range Try.underlying47 rfl HX.out.2.2.1) rfl ⟨rfl, HF.out.2⟩
  by_cases e6 : 1048576 < now
  · go_enter Try.func12, Try.ntmps12
    go_wp2_with (first | (refine wpList_load_mid rfl 47 _ rfl w.heap.size 0 rfl M _ HX.out.1.range Try.underlying47 rfl HX.out.2.2.1 ?_) | (refine wpList_store_mid rfl 47 _ _ rfl (w.heap.size + 1) 0 M.toArray rfl rfl (HX.out.2.1.there (by simp [HX.out.2.2.2.1])) (by simpa using HX.out.2.2.1) (all_oneCell_toArray HX.out.2.2.2.2) ?_))
    exact bodyPost_ret (results_cell_tmp rfl _ _ (w.heap.size + 1) M _ rfl HF.out.1.range Try.underlying47 rfl HX.out.2.2.1) rfl ⟨rfl, HF.out.2⟩
  by_cases e7 : k < 1
  · go_enter Try.func12, Try.ntmps12
    go_wp2_with (first | (refine wpList_load_mid rfl 47 _ rfl w.heap.size 0 rfl M _ HX.out.1.range Try.underlying47 rfl HX.out.2.2.1 ?_) | (refine wpList_store_mid rfl 47 _ _ rfl (w.heap.size + 1) 0 M.toArray rfl rfl (HX.out.2.1.there (by simp [HX.out.2.2.2.1])) (by simpa using HX.out.2.2.1) (all_oneCell_toArray HX.out.2.2.2.2) ?_))
    exact bodyPost_ret (results_cell_tmp rfl _ _ (w.heap.size + 1) M _ rfl HF.out.1.range Try.underlying47 rfl HX.out.2.2.1) rfl ⟨rfl, HF.out.2⟩
  by_cases e8 : 65536 < k
  · go_enter Try.func12, Try.ntmps12
    go_wp2_with (first | (refine wpList_load_mid rfl 47 _ rfl w.heap.size 0 rfl M _ HX.out.1.range Try.underlying47 rfl HX.out.2.2.1 ?_) | (refine wpList_store_mid rfl 47 _ _ rfl (w.heap.size + 1) 0 M.toArray rfl rfl (HX.out.2.1.there (by simp [HX.out.2.2.2.1])) (by simpa using HX.out.2.2.1) (all_oneCell_toArray HX.out.2.2.2.2) ?_))
    exact bodyPost_ret (results_cell_tmp rfl _ _ (w.heap.size + 1) M _ rfl HF.out.1.range Try.underlying47 rfl HX.out.2.2.1) rfl ⟨rfl, HF.out.2⟩
  exact absurd (by unfold wantOk; omega) HW.out
end Go.Proofs.Ytdfklbjkcednhaa
