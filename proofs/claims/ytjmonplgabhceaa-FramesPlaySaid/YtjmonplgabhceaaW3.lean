/- Walks over package frames: Len, New, Take. -/
import Derived.Test.YtjmonplgabhceaaW2
namespace Go.Proofs.Ytjmonplgabhceaa
open Go.RowKit

def freeN (T : List Bool) (k : Nat) : Nat := ((T.take k).filter (fun b => !b)).length
theorem freeN_succ {T : List Bool} {k : Nat} (hk : k < T.length) : freeN T (k + 1) = if T[k] then freeN T k else freeN T k + 1 := by
  unfold freeN
  rw [List.take_succ_eq_append_getElem hk, List.filter_append, List.length_append]
  cases T[k] <;> simp
theorem freeN_le (T : List Bool) (k : Nat) : freeN T k ≤ k := by
  unfold freeN
  exact Nat.le_trans (List.length_filter_le _ _) (by simp; omega)
set_option maxHeartbeats 2000000 in
theorem len_any (s : FrS) (g : Nat) (w : World) (h : Fm w g s) : Calls Try.prog 20 #[.pointer (some ⟨g, 0, none⟩)] w fun e w' => e = .returned (.tuple #[.int .i64 s.n, .int .i64 (freeN s.T s.n : Int)]) ∧ w = w' := by
  have c0 := h.cn
  have HM := Lib.hid h
  have hn := h.n0
  clear h
  go_enter Try.func20, Try.ntmps20
  go_wp2_with fail
  go_loop [3, 4, 11] (fun s3 _ s11 => ∃ k f : Nat, k ≤ s.n ∧ s11 = .int .i64 k ∧ s3 = .int .i64 f ∧ Hid (f = freeN s.T k)) (fun _ _ i => s.n - (intOf i).toNat)
  case atStart => exact ⟨0, 0, Nat.zero_le _, rfl, rfl, rfl⟩
  case round =>
    obtain ⟨k, f, hk, rfl, rfl, HF⟩ := hrel
    by_cases hkn : k < s.n
    · have hkT : k < s.T.length := by rw [HM.out.t]; omega
      have c1 := HM.out.ct (i := k) (by omega)
      have HS := Lib.hid (freeN_succ hkT)
      have hfl := freeN_le s.T k
      rw [← HF.out] at hfl
      have k0 : (0 : Int) ≤ (k : Int) := by omega
      have k1 : (k : Int) < 32 := by omega
      have k2 : (k : Int) < (s.n : Int) := by omega
      generalize s.T[k] = b at *
      cases b
      · go_wp2_with fail
        go_round
        case rel => exact ⟨k + 1, f + 1, by omega, by go_num, by go_num, by show f + 1 = _; rw [HS.out, HF.out]; rfl⟩
        case measure => simp [intOf]; omega
      · go_wp2_with fail
        go_round
        case rel => exact ⟨k + 1, f, by omega, by go_num, rfl, by show f = _; rw [HS.out, HF.out]; rfl⟩
        case measure => simp [intOf]; omega
    · obtain rfl : k = s.n := by omega
      go_wp2_with fail
      go_ret2
      exact ⟨by rw [← HF.out]; rfl, rfl⟩

def newF (n : Nat) : FrS := ⟨n, List.replicate 32 false, List.replicate 512 0⟩
def RetNF (n : Nat) (w : World) (e : Ending) (w' : World) : Prop := e = .returned (.tuple #[.pointer (some ⟨w.heap.size, 0, none⟩), .int .i64 0]) ∧ Fm w' w.heap.size (newF n) ∧ Below w.heap.size w w'
set_option maxHeartbeats 2000000 in
set_option maxRecDepth 100000 in
theorem new_yes (n : Nat) (w : World) (h1 : 1 ≤ n) (h2 : n ≤ 32) : Calls Try.prog 5 #[.int .i64 n] w (RetNF n w) := by
  have a1 : ¬ (n : Int) < 1 := by omega
  have a2 : ¬ (32 : Int) < (n : Int) := by omega
  obtain ⟨Z, hZ⟩ : ∃ Z, Z = (fc (newF 0)).toArray := ⟨_, rfl⟩
  have hzv : ∀ w, (zeroValue 53).run Try.prog w = .ok (.agg Z) w := fun w => by rw [hZ]; kernel_rfl
  have hne : ¬ Z = #[] := by rw [hZ]; simp [fc]
  have HB : Hid (Z.setIfInBounds 0 (.int .i64 (n : Int)) = (fc (newF n)).toArray) := by unfold Hid; rw [hZ]; rfl
  clear hZ
  go_enter Try.func5, Try.ntmps5
  go_wp2
  go_ret2
  refine ⟨rfl, ⟨h2, rfl, rfl, ?_⟩, below1 _ _⟩
  rw [← HB.out]
  exact Blk.new w _ _
set_option maxHeartbeats 1000000 in
theorem new_no (n : Int) (w : World) (h : n < 1 ∨ 32 < n) : Calls Try.prog 5 #[.int .i64 n] w fun e w' => e = .returned (.tuple #[.pointer none, .int .i64 1]) ∧ w = w' := by
  rcases h with h | h
  · go_enter Try.func5, Try.ntmps5
    go_wp2
    go_ret2
    exact ⟨rfl, rfl⟩
  · have h' : ¬ n < 1 := by omega
    go_enter Try.func5, Try.ntmps5
    go_wp2
    go_ret2
    exact ⟨rfl, rfl⟩
end Go.Proofs.Ytjmonplgabhceaa
