/- Walks: a call's word, and the call of a word. -/
import Derived.Test.YtjojnfnjekjjnaaDoorM1
import Derived.Test.YtjojnfnjekjjnaaDoorSoft4
import Derived.Test.YtjojnfnjekjjnaaDoorW4
namespace Go.Proofs.YtjojnfnjekjjnaaDoor
open Go.RowKit

/-- a new block reads as a list -/
theorem Sl.lit {α : Type} {enc : α → List Value} {sz : Nat} (he : EncOk enc sz) (w : World) (xs : List α) (cs : Array Value) (hcs : cs.toList = xs.flatMap enc) (t : TypeId) : Sl enc sz (w.alloc (.cells cs t)) (some ⟨w.heap.size, 0, none⟩) xs := fun _ => by
  refine ⟨w.heap.size, 0, rfl, fun i x j u hx hu => ?_⟩
  have hj : j < sz := by rw [← he.len x]; exact (List.getElem?_eq_some_iff.1 hu).1
  have h1 := cell_of_row (w.alloc (.cells cs t)) w.heap.size (i * sz + j) cs t (0, 0) (heap_alloc_new w _)
  rw [Nat.zero_add, h1, ← Array.getElem?_toList, hcs, flat_at he.len xs i x j hx hj, hu]
theorem Sl.lit' {α : Type} {enc : α → List Value} {sz : Nat} (he : EncOk enc sz) (w : World) (xs : List α) (cs : Array Value) (hcs : cs.toList = xs.flatMap enc) (t : TypeId) {g : Nat} (hg : w.heap.size = g) : Sl enc sz (w.alloc (.cells cs t)) (some ⟨g, 0, none⟩) xs := by
  subst hg
  exact Sl.lit he w xs cs hcs t

def partsA : Array Value := #[.int .i64 0, .int .i64 8, .int .i64 8, .int .i64 8, .int .i64 16, .int .i64 8, .int .i64 24, .int .i64 20, .int .i64 44, .int .i64 20]
theorem parts_any (w : World) : Calls Tryd.prog 14 #[] w fun e w' => e = .returned (.slice (some ⟨w.heap.size, 0, none⟩) 5 5) ∧ w' = w.alloc (.cells partsA 50) := by
  go_enter Tryd.func14, Tryd.ntmps14
  go_wp2
  go_ret
  exact ⟨rfl, rfl⟩

theorem keep5 {W w1 w2 : World} {p q r t s : Addr} {v u x y z : Value} (h : Below W.heap.size W w1 ∧ w1.cell? p = some v ∧ w1.cell? q = some u ∧ w1.cell? r = some x ∧ w1.cell? t = some y ∧ w1.cell? s = some z) (hb : Below w1.heap.size w1 w2) :
    Below W.heap.size W w2 ∧ w2.cell? p = some v ∧ w2.cell? q = some u ∧ w2.cell? r = some x ∧ w2.cell? t = some y ∧ w2.cell? s = some z :=
  ⟨bstep h.1 (Nat.le_refl _) hb, kcell hb h.2.1, kcell hb h.2.2.1, kcell hb h.2.2.2.1, kcell hb h.2.2.2.2.1, kcell hb h.2.2.2.2.2⟩
theorem keepA5 {W w1 : World} {p q r t s : Addr} {v u x y z : Value} (h : Below W.heap.size W w1 ∧ w1.cell? p = some v ∧ w1.cell? q = some u ∧ w1.cell? r = some x ∧ w1.cell? t = some y ∧ w1.cell? s = some z) (o : Obj) :
    Below W.heap.size W (w1.alloc o) ∧ (w1.alloc o).cell? p = some v ∧ (w1.alloc o).cell? q = some u ∧ (w1.alloc o).cell? r = some x ∧ (w1.alloc o).cell? t = some y ∧ (w1.alloc o).cell? s = some z := keep5 h (below1 _ _)
def aggC (op a b c d : Int) : Value := .agg #[.int .i64 op, .int .i64 a, .int .i64 b, .int .i64 c, .int .i64 d]
theorem word_no (op a b c d : Int) (w : World) (h : rightC op a b c d = false) : Calls Tryd.prog 5 #[.agg #[.int .i64 op, .int .i64 a, .int .i64 b, .int .i64 c, .int .i64 d]] w fun e w' => e = .returned (.tuple #[.int .u64 0, .int .i64 1]) ∧ Below w.heap.size w w' := by
  have hR := Lib.hid (fun W => right_call op a b c d W)
  rw [h] at hR
  go_enter Tryd.func5, Tryd.ntmps5
  go_wp2_with (go_at_call 6; (with_reducible refine (hR.out _).mono ?_); rintro e w2 ⟨rfl, hb⟩)
  go_ret2
  exact ⟨rfl, bstep (below1 _ _) (Nat.le_refl _) hb⟩

set_option maxRecDepth 100000 in
set_option maxHeartbeats 4000000 in
theorem word_yes (op a b c d : Nat) (w : World) (h : rightC op a b c d = true) : Calls Tryd.prog 5 #[.agg #[.int .i64 op, .int .i64 a, .int .i64 b, .int .i64 c, .int .i64 d]] w fun e w' => e = .returned (.tuple #[.int .u64 (wordI op a b c d), .int .i64 0]) ∧ Below w.heap.size w w' := by
  have hR := Lib.hid (fun W => right_call op a b c d W)
  rw [h] at hR
  have hq := rightC_t h
  have HJ := Lib.hid (join_parts op a b c d (by omega) (by omega) (by omega) (by omega) (by omega))
  have u0 : IntKind.u64.wrap (op : Int) = op := by rw [IntKind.wrap_u64]; omega
  have u1 : IntKind.u64.wrap (a : Int) = a := by rw [IntKind.wrap_u64]; omega
  have u2 : IntKind.u64.wrap (b : Int) = b := by rw [IntKind.wrap_u64]; omega
  have u3 : IntKind.u64.wrap (c : Int) = c := by rw [IntKind.wrap_u64]; omega
  have u4 : IntKind.u64.wrap (d : Int) = d := by rw [IntKind.wrap_u64]; omega
  have hB := below1 w (Obj.cells #[.int .i64 op, .int .i64 a, .int .i64 b, .int .i64 c, .int .i64 d] 29)
  have bk := Blk.new w 29 #[.int .i64 op, .int .i64 a, .int .i64 b, .int .i64 c, .int .i64 d]
  go_enter Tryd.func5, Tryd.ntmps5
  go_wp2_with (go_at_call 6; (with_reducible refine (hR.out _).mono ?_); rintro e w2 ⟨rfl, hb⟩)
  replace bk := bk.keep hb
  replace hB := bstep hB (by simp) hb
  clear hb
  have c0 := bk.cell 0 (.int .i64 op) rfl
  have c1 := bk.cell 1 (.int .i64 a) rfl
  have c2 := bk.cell 2 (.int .i64 b) rfl
  have c3 := bk.cell 3 (.int .i64 c) rfl
  have c4 := bk.cell 4 (.int .i64 d) rfl
  have J1 : Hid (Calls Tryd.prog 13 #[.slice (some ⟨w2.heap.size, 0, none⟩) 5 5, .slice (some ⟨w2.heap.size + 1, 0, none⟩) 5 5] ((w2.alloc (Obj.cells partsA 50)).alloc (Obj.cells #[.int .u64 op, .int .u64 a, .int .u64 b, .int .u64 c, .int .u64 d] 25)).drew fun e w' => e = .returned (.tuple #[.int .u64 (wordI op a b c d), .int .i64 0]) ∧ Below ((w2.alloc (Obj.cells partsA 50)).alloc (Obj.cells #[.int .u64 op, .int .u64 a, .int .u64 b, .int .u64 c, .int .u64 d] 25)).drew.heap.size ((w2.alloc (Obj.cells partsA 50)).alloc (Obj.cells #[.int .u64 op, .int .u64 a, .int .u64 b, .int .u64 c, .int .u64 d] 25)).drew w') := by
    rw [← HJ.out]
    exact join_any _ _ partsL [(op : Int), (a : Int), (b : Int), (c : Int), (d : Int)] 5 5 _ ((Sl.lit eF_ok w2 partsL _ rfl _).alloc _).drew (Sl.lit' eU_ok _ _ _ rfl _ (by simp)).drew rfl (by decide) (by simp)
  have J2 : Hid (Calls Tryd.prog 13 #[.slice (some ⟨w2.heap.size + 1, 0, none⟩) 5 5, .slice (some ⟨w2.heap.size, 0, none⟩) 5 5] ((w2.alloc (Obj.cells #[.int .u64 op, .int .u64 a, .int .u64 b, .int .u64 c, .int .u64 d] 25)).alloc (Obj.cells partsA 50)).drew fun e w' => e = .returned (.tuple #[.int .u64 (wordI op a b c d), .int .i64 0]) ∧ Below ((w2.alloc (Obj.cells #[.int .u64 op, .int .u64 a, .int .u64 b, .int .u64 c, .int .u64 d] 25)).alloc (Obj.cells partsA 50)).drew.heap.size ((w2.alloc (Obj.cells #[.int .u64 op, .int .u64 a, .int .u64 b, .int .u64 c, .int .u64 d] 25)).alloc (Obj.cells partsA 50)).drew w') := by
    rw [← HJ.out]
    exact join_any _ _ partsL [(op : Int), (a : Int), (b : Int), (c : Int), (d : Int)] 5 5 _ (Sl.lit' eF_ok _ partsL _ rfl _ (by simp)).drew ((Sl.lit eU_ok _ _ _ rfl _).alloc _).drew rfl (by decide) (by simp)
  clear HJ
  go_region_held3 (fun w' => Below w2.heap.size w2 w' ∧ w'.cell? ⟨w.heap.size, 0, none⟩ = some (.int .i64 op) ∧ w'.cell? ⟨w.heap.size, 1, none⟩ = some (.int .i64 a) ∧ w'.cell? ⟨w.heap.size, 2, none⟩ = some (.int .i64 b) ∧ w'.cell? ⟨w.heap.size, 3, none⟩ = some (.int .i64 c) ∧ w'.cell? ⟨w.heap.size, 4, none⟩ = some (.int .i64 d))
    (first | exact ⟨(Below.refl _ _).drew, c0, c1, c2, c3, c4⟩ | exact keepA5 ‹_› _ | exact keep5 ‹_› hb)
    (first | (go_at_call 14; refine (parts_any _).mono ?_; rintro e w6 ⟨rfl, rfl⟩) | (go_at_call 13; (first | (with_reducible refine J1.out.mono ?_) | (with_reducible refine J2.out.mono ?_)); rintro e w6 ⟨rfl, hb⟩))
  all_goals rename_i hH
  all_goals go_wp2
  all_goals go_ret2
  all_goals exact ⟨rfl, bstep hB (by simp) hH.1⟩
end Go.Proofs.YtjojnfnjekjjnaaDoor
