/- Walks over package frames: small methods; the memory in one block. -/
import Derived.Test.YtjmonplgabhceaaBlk
import Derived.Test.YtjmonplgabhceaaApp
namespace Go.Proofs.Ytjmonplgabhceaa
open Go.RowKit

/-- so many frames, which are taken (32), and all bytes (512) -/
structure FrS where
  n : Nat
  T : List Bool
  B : List Int
def fc (s : FrS) : List Value := .int .i64 s.n :: (s.T.map Value.bool ++ s.B.map (Value.int .u8))
structure Fm (w : World) (g : Nat) (s : FrS) : Prop where
  n0 : s.n ≤ 32
  t : s.T.length = 32
  b : s.B.length = 512
  at_ : Blk w g 53 (fc s).toArray
theorem fc_n (s : FrS) : (fc s)[0]? = some (.int .i64 s.n) := rfl
theorem fc_t (s : FrS) (ht : s.T.length = 32) {i : Nat} (hi : i < 32) : (fc s)[1 + i]? = some (.bool (s.T[i]'(by omega))) := by
  unfold fc
  rw [Nat.add_comm, List.getElem?_cons_succ, List.getElem?_append_left (by simp; omega), List.getElem?_map, List.getElem?_eq_getElem (by omega)]
  rfl
theorem fc_b (s : FrS) (ht : s.T.length = 32) (hb : s.B.length = 512) {m : Nat} (hm : m < 512) : (fc s)[33 + m]? = some (.int .u8 (s.B[m]'(by omega))) := by
  unfold fc
  rw [show 33 + m = (32 + m) + 1 by omega, List.getElem?_cons_succ, List.getElem?_append_right (by simp; omega), List.getElem?_map, List.length_map, ht, show 32 + m - 32 = m by omega, List.getElem?_eq_getElem (by omega)]
  rfl
theorem fc_setT (s : FrS) (ht : s.T.length = 32) {i : Nat} (hi : i < 32) (v : Bool) : (fc s).set (1 + i) (.bool v) = fc { s with T := s.T.set i v } := by
  unfold fc
  rw [Nat.add_comm, List.set_cons_succ, List.set_append_left _ _ (by simp; omega), List.map_set]
theorem fc_setB (s : FrS) (ht : s.T.length = 32) {m : Nat} (v : Int) : (fc s).set (33 + m) (.int .u8 v) = fc { s with B := s.B.set m v } := by
  unfold fc
  rw [show 33 + m = (32 + m) + 1 by omega, List.set_cons_succ, List.set_append_right _ _ (by simp; omega), List.length_map, ht, show 32 + m - 32 = m by omega, List.map_set]
section
variable {w w' : World} {g : Nat} {s : FrS}
theorem Fm.cn (h : Fm w g s) : w.cell? ⟨g, 0, none⟩ = some (.int .i64 s.n) := h.at_.cell 0 _ (by rw [List.getElem?_toArray]; rfl)
theorem Fm.ct (h : Fm w g s) {i : Nat} (hi : i < 32) : w.cell? ⟨g, 1 + i, none⟩ = some (.bool (s.T[i]'(by rw [h.t]; exact hi))) := h.at_.cell _ _ (by rw [List.getElem?_toArray]; exact fc_t s h.t hi)
theorem Fm.cb (h : Fm w g s) {m : Nat} (hm : m < 512) : w.cell? ⟨g, 33 + m, none⟩ = some (.int .u8 (s.B[m]'(by rw [h.b]; exact hm))) := h.at_.cell _ _ (by rw [List.getElem?_toArray]; exact fc_b s h.t h.b hm)
theorem Fm.keep (h : Fm w g s) (hb : Below w.heap.size w w') : Fm w' g s := ⟨h.n0, h.t, h.b, h.at_.keep hb⟩
theorem Fm.drew (h : Fm w g s) : Fm w.drew g s := ⟨h.n0, h.t, h.b, h.at_⟩
theorem Fm.setT (h : Fm w g s) {i : Nat} (hi : i < 32) (v : Bool) : Fm (w.setCell ⟨g, 1 + i, none⟩ (.bool v)) g { s with T := s.T.set i v } := by
  refine ⟨h.n0, by simpa using h.t, h.b, ?_⟩
  have := h.at_.set_ (1 + i) (.bool v)
  rw [List.setIfInBounds_toArray, fc_setT s h.t hi] at this
  exact this
theorem Fm.setB (h : Fm w g s) (m : Nat) (v : Int) : Fm (w.setCell ⟨g, 33 + m, none⟩ (.int .u8 v)) g { s with B := s.B.set m v } := by
  refine ⟨h.n0, h.t, by simpa using h.b, ?_⟩
  have := h.at_.set_ (33 + m) (.int .u8 v)
  rw [List.setIfInBounds_toArray, fc_setB s h.t] at this
  exact this
end
def hasF (s : FrS) (i : Int) : Bool := decide (0 ≤ i ∧ i < s.n)
def takenF (s : FrS) (i : Int) : Bool := hasF s i && (s.T[i.toNat]?).getD false
set_option maxHeartbeats 1000000 in
theorem has_any (s : FrS) (g : Nat) (i : Int) (w : World) (h : Fm w g s) : Calls Try.prog 23 #[.pointer (some ⟨g, 0, none⟩), .int .i64 i] w fun e w' => e = .returned (.bool (hasF s i)) ∧ w = w' := by
  have c0 := h.cn
  clear h
  by_cases h0 : 0 ≤ i
  · have HH : Hid (hasF s i = decide (i < (s.n : Int))) := by unfold Hid hasF; rw [decide_eq_decide]; omega
    go_enter Try.func23, Try.ntmps23
    go_wp2
    go_ret
    exact ⟨ret_bool HH.out.symm, rfl⟩
  · have HH : Hid (hasF s i = false) := by unfold Hid hasF; exact decide_eq_false (by omega)
    go_enter Try.func23, Try.ntmps23
    go_wp2
    go_ret
    exact ⟨ret_bool HH.out.symm, rfl⟩
theorem hasF_t {s : FrS} {i : Int} (h : hasF s i = true) : ∃ k : Nat, i = k ∧ k < s.n := by
  have h2 : 0 ≤ i ∧ i < s.n := of_decide_eq_true h
  obtain ⟨k, rfl⟩ := Int.eq_ofNat_of_zero_le h2.1
  exact ⟨k, rfl, by omega⟩
set_option maxHeartbeats 1000000 in
theorem taken_any (s : FrS) (g : Nat) (i : Int) (w : World) (h : Fm w g s) : Calls Try.prog 16 #[.pointer (some ⟨g, 0, none⟩), .int .i64 i] w fun e w' => e = .returned (.bool (takenF s i)) ∧ w = w' := by
  have H := Lib.hid (fun W hW => has_any s g i W hW)
  cases hh : hasF s i
  · rw [hh] at H
    have HT : Hid (takenF s i = false) := by unfold Hid takenF; rw [hh]; rfl
    go_enter Try.func16, Try.ntmps16
    go_wp2_with fail
    refine (H.out _ h).mono ?_
    rintro e w2 ⟨rfl, rfl⟩
    go_wp2_with fail
    go_ret
    exact ⟨ret_bool HT.out.symm, rfl⟩
  · rw [hh] at H
    obtain ⟨k, rfl, hk⟩ := hasF_t hh
    have hn := h.n0
    have hk32 : k < 32 := by omega
    have c1 := h.ct hk32
    have hkT : k < s.T.length := by rw [h.t]; exact hk32
    have HT : Hid (takenF s k = s.T[k]) := by unfold Hid takenF; rw [hh, Int.toNat_natCast, List.getElem?_eq_getElem hkT]; rfl
    have k0 : (0 : Int) ≤ (k : Int) := by omega
    have k1 : (k : Int) < 32 := by omega
    generalize s.T[k] = b at *
    go_enter Try.func16, Try.ntmps16
    go_wp2_with fail
    refine (H.out _ h).mono ?_
    rintro e w2 ⟨rfl, rfl⟩
    go_wp2_with fail
    go_ret
    exact ⟨ret_bool HT.out.symm, rfl⟩
end Go.Proofs.Ytjmonplgabhceaa
