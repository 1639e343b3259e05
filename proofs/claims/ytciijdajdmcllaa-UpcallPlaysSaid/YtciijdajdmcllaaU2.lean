/- Walks: the document's New, Name, Take. -/
import Derived.Test.YtciijdajdmcllaaU1
namespace Go.Proofs.Ytciijdajdmcllaa
open Go.RowKit Go.Lib

def zRow : RwS := ⟨none, 0, [], 0⟩
def newR : List RwS := List.replicate 8 zRow
theorem newR_ct : newR.map ctOf = newC := rfl
set_option maxRecDepth 100000 in
set_option maxHeartbeats 1000000 in
theorem new_any (w : World) : Calls Try.prog 9 #[] w (RetQ none [] newR w) := by
  obtain ⟨j0, hj0, jz0, jz1, jz2⟩ := info_parts info_rw
  go_enter Try.func9, Try.ntmps9
  go_wp2_with (at_make; refine wpList_make_full _ rfl _ _ 43 rfl w.heap.size 49 j0 _ 2 Try.underlying43 hj0 jz0 jz1 _ _ _ _ 8 rfl rfl (by omega) (by omega) (by rw [jz2]; omega) (by simp only [maxLen]; omega) (Nat.le_refl _) ?_; intro w4 ownH hg)
  go_ret
  have ho : Own rowC 2 w4 w.heap.size 49 (some ⟨w.heap.size, 0, none⟩) 8 newR := by
    have e : (madeCells (Value.agg #[.slice none 0 0, .int .i64 0]).cells (8 * 2)).toList = newR.flatMap rowC := by kernel_rfl
    rw [e] at ownH
    exact ownH
  have hb : Below w.heap.size w w4 := ⟨hg.os, hg.tape, hg.output, hg.size, fun i hi => hg.block i hi (by simp)⟩
  refine ⟨_, 8, rfl, ⟨rfl, ho.from_ (by omega), fun r hr => ?_, fun r hr => ?_⟩, fun b hb2 => ?_, hb⟩
  · rw [List.eq_of_mem_replicate hr]; exact Sl.nil _ _
  · rw [List.eq_of_mem_replicate hr]; exact Nat.le_refl _
  · exact ho.lt b hb2

theorem nm_cell {w : World} {g : Nat} {t : TypeId} {cs : Array Value} (h : Blk w g t cs) (i : Nat) (v : Value) (hv : cs[i]? = some v) : w.cell? ⟨g, i, none⟩ = some v := h.cell i v hv
set_option maxRecDepth 100000 in
set_option maxHeartbeats 2000000 in
theorem rname_any (k : Int) (w : World) : Calls Try.prog 16 #[.int .i64 k] w fun e w' => e = .returned (.string (nameB k)) ∧ Below w.heap.size w w' := by
  cases h : okK k
  · have h2 : ¬ (1 ≤ k ∧ k ≤ 8) := of_decide_eq_false h
    rw [name_not h]
    by_cases h0 : k < 0
    · go_enter Try.func16, Try.ntmps16
      go_wp2
      go_ret
      exact ⟨rfl, below1 _ _⟩
    · by_cases h8 : 8 < k
      · go_enter Try.func16, Try.ntmps16
        go_wp2
        go_ret
        exact ⟨rfl, below1 _ _⟩
      · obtain rfl : k = 0 := by omega
        go_enter Try.func16, Try.ntmps16
        go_wp2
        go_ret
        exact ⟨rfl, below1 _ _⟩
  · rcases okK_cases h with rfl | rfl | rfl | rfl | rfl | rfl | rfl | rfl
    all_goals
      go_enter Try.func16, Try.ntmps16
      go_wp2
      go_ret
      exact ⟨rfl, below1 _ _⟩

/-- what the document's call hands back -/
def RetQT (A : Option Addr) (R : List RwS) (C : List Ct) (x : Up) (v : Int) (w : World) (e : Ending) (w' : World) : Prop := ∃ (O : Option Addr) (d : Nat) (R' : List RwS), e = .returned (.tuple #[.slice O 8 d, .agg #[.int .i64 x.kind, .int .i64 x.a, .int .u64 x.b], .int .i64 v]) ∧ Qs w' O d R' ∧ R'.map ctOf = C ∧ (∀ b, FB O R' b → FB A R b ∨ (w.heap.size ≤ b ∧ b < w'.heap.size)) ∧ Below w.heap.size w w'
set_option maxHeartbeats 1000000 in
theorem rtake_env (A : Option Addr) (c : Nat) (R : List RwS) (i : Int) (w : World) (hQ : Qs w A c R) (hi : i < 0 ∨ 7 < i) : Calls Try.prog 10 #[.slice A 8 c, .int .i64 i] w (RetQT A R (R.map ctOf) ⟨0, 0, 0⟩ 1 w) := by
  have hB := below1 w (Obj.cells #[.int .i64 0, .int .i64 0, .int .u64 0] 33)
  have HQ := Lib.hid (hQ.keep hB)
  clear hQ
  rcases hi with h | h
  · go_enter Try.func10, Try.ntmps10
    go_wp2
    exact bodyPost_ret (v := .tuple #[.slice A 8 c, .agg #[.int .i64 0, .int .i64 0, .int .u64 0], .int .i64 1]) (by simp [results, Try.results10, go_sem]) rfl ⟨A, c, R, rfl, HQ.out, rfl, fun b hb => .inl hb, hB⟩
  · have h0 : ¬ i < 0 := by omega
    go_enter Try.func10, Try.ntmps10
    go_wp2
    exact bodyPost_ret (v := .tuple #[.slice A 8 c, .agg #[.int .i64 0, .int .i64 0, .int .u64 0], .int .i64 1]) (by simp [results, Try.results10, go_sem]) rfl ⟨A, c, R, rfl, HQ.out, rfl, fun b hb => .inl hb, hB⟩
set_option maxHeartbeats 1000000 in
theorem rtake_nil (A : Option Addr) (c : Nat) (R : List RwS) (i : Nat) (w : World) (hQ : Qs w A c R) (hi : i < 8) (hiR : i < R.length) (hL : R[i].L = []) : Calls Try.prog 10 #[.slice A 8 c, .int .i64 i] w (RetQT A R (R.map ctOf) ⟨0, 0, 0⟩ 6 w) := by
  have hB := below1 w (Obj.cells #[.int .i64 0, .int .i64 0, .int .u64 0] 33)
  obtain ⟨q, rfl, c0, c1⟩ := (hQ.keep hB).at_ hiR
  rw [hL] at c0
  simp only [List.length_nil] at c0
  have HQ := Lib.hid hQ
  have i0 : (0 : Int) ≤ (i : Int) := by omega
  have i1 : (i : Int) < 8 := by omega
  have i2 : ¬ (7 : Int) < (i : Int) := by omega
  generalize R[i].A = A2 at *
  generalize R[i].c = c2 at *
  generalize R[i].lost = l2 at *
  have hB2 : Below w.heap.size w ((w.alloc (Obj.cells #[.int .i64 0, .int .i64 0, .int .u64 0] 33)).alloc (Obj.cells #[.slice A2 0 c2, .int .i64 l2] 49)) := hB.alloc (by simp) _
  clear hQ hL
  go_enter Try.func10, Try.ntmps10
  go_wp2
  exact bodyPost_ret (v := .tuple #[.slice (some ⟨q, 0, none⟩) 8 c, .agg #[.int .i64 0, .int .i64 0, .int .u64 0], .int .i64 6]) (by simp [results, Try.results10, go_sem]) rfl ⟨_, c, R, rfl, HQ.out.keep hB2, rfl, fun b hb => .inl hb, hB2⟩
end Go.Proofs.Ytciijdajdmcllaa
