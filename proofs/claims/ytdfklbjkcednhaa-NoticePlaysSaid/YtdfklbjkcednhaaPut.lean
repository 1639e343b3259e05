/- One element of a row of the call's own, stored whole. -/
import Derived.Test.YtdfklbjkcednhaaWide
namespace Go.Proofs.Ytdfklbjkcednhaa
open Go.RowKit Go.Lib

section
variable {α : Type} {enc : α → List Value} {sz : Nat}
theorem lay_flat (he : ∀ x, (enc x).length = sz) (h0 : 0 < sz) (cur : Array Value) (R : List α) (i c : Nat) (x : α) (hi : i < R.length) (hc : R.length ≤ c) (hs : cur.size = c * sz) (ht : cur.toList.take (R.length * sz) = R.flatMap enc) :
    (lay cur (i * sz) (enc x)).toList.take (R.length * sz) = (R.set i x).flatMap enc := by
  have e1 : (i + 1) * sz ≤ R.length * sz := Nat.mul_le_mul_right _ hi
  have e2 : R.length * sz ≤ c * sz := Nat.mul_le_mul_right _ hc
  rw [Nat.add_mul, Nat.one_mul] at e1
  apply List.ext_getElem?
  intro j
  by_cases hj : j < R.length * sz
  · rw [List.getElem?_take, if_pos hj, Array.getElem?_toList, lay_get? _ _ _ _ (by rw [he]; omega), he]
    have hq : j / sz < R.length := Nat.div_lt_of_lt_mul (by rw [Nat.mul_comm]; exact hj)
    have hjd : j / sz * sz + j % sz = j := by rw [Nat.mul_comm]; exact Nat.div_add_mod j sz
    have hr : j % sz < sz := Nat.mod_lt _ h0
    by_cases hqi : j / sz = i
    · have h1 := flat_at he (R.set i x) i x (j % sz) (by simp [hi]) hr
      rw [hqi] at hjd
      rw [if_pos (by omega), show j - i * sz = j % sz by omega, ← h1, hjd]
    · have h1 := flat_at he (R.set i x) (j / sz) R[j / sz] (j % sz) (by rw [List.getElem?_set_ne (by omega), List.getElem?_eq_getElem hq]) hr
      have h2 := flat_at he R (j / sz) R[j / sz] (j % sz) (List.getElem?_eq_getElem hq) hr
      have hne : ¬ (i * sz ≤ j ∧ j < i * sz + sz) := by
        intro hh
        rcases Nat.lt_or_ge (j / sz) i with hlt | hge
        · have := Nat.mul_le_mul_right sz hlt
          rw [Nat.succ_mul] at this
          omega
        · have hlt : i + 1 ≤ j / sz := by omega
          have := Nat.mul_le_mul_right sz hlt
          rw [Nat.add_mul, Nat.one_mul] at this
          omega
      rw [hjd] at h1 h2
      rw [if_neg hne, h1, ← h2, ← ht, List.getElem?_take, if_pos hj, Array.getElem?_toList]
  · rw [List.getElem?_eq_none (by rw [List.length_take]; omega), List.getElem?_eq_none (by rw [flat_len he, List.length_set]; omega)]
theorem own_put (he : ∀ x, (enc x).length = sz) (h0 : 0 < sz) {w : World} {base : Nat} {e : TypeId} {q c : Nat} {R : List α} (h : Own enc sz w base e (some ⟨q, 0, none⟩) c R) {i : Nat} (hi : i < R.length) (x : α) :
    Own enc sz (w.setCells q (i * sz) (enc x)) base e (some ⟨q, 0, none⟩) c (R.set i x) ∧ w.grownBy (w.setCells q (i * sz) (enc x)) (some q) := by
  obtain ⟨cur, h1, h2, h3, h4, h5, h6⟩ := own_block h
  refine ⟨?_, grown_setCells q _ _ w w (only_refl w q)⟩
  have h7 := heap_setCells q e (enc x) (i * sz) w cur h2
  have h8 := lay_flat he h0 cur R i c x hi h3 h5 h6
  exact ⟨flat_len he _, .inr ⟨q, c, _, rfl, h1, h7, by rw [List.length_set]; exact h3, h4, by rw [lay_size]; exact h5, by rw [List.length_set]; exact h8⟩⟩
/-- the cells of one element -/
theorem own_cell (he : EncOk enc sz) {w : World} {base : Nat} {e : TypeId} {q c : Nat} {R : List α} (h : Own enc sz w base e (some ⟨q, 0, none⟩) c R) {i : Nat} (hi : i < R.length) {j : Nat} {v : Value} (hj : (enc R[i])[j]? = some v) : w.cell? ⟨q, i * sz + j, none⟩ = some v := by
  obtain ⟨b, off, hA, hc⟩ := (h.sl he).at_ hi
  injection hA with hA
  injection hA with h1 h2
  subst h1 h2
  simpa using hc j v hj
theorem own_range (he : EncOk enc sz) {w : World} {base : Nat} {e : TypeId} {q c : Nat} {R : List α} (h : Own enc sz w base e (some ⟨q, 0, none⟩) c R) {i : Nat} (hi : i < R.length) : w.rangeAt q (i * sz) (enc R[i]) := fun _ _ hj => own_cell he h hi hj
theorem own_there {w : World} {base : Nat} {e : TypeId} {q c : Nat} {R : List α} (h : Own enc sz w base e (some ⟨q, 0, none⟩) c R) {i : Nat} (hi : i < c) : w.there q (i * sz) sz := fun j hj => by
  have e1 : (i + 1) * sz ≤ c * sz := Nat.mul_le_mul_right _ hi
  rw [Nat.add_mul, Nat.one_mul] at e1
  exact own_room h (i * sz + j) (by omega)
/-- .. cut at its end, in its place -/
theorem own_cut (he : ∀ x, (enc x).length = sz) {w : World} {base : Nat} {e : TypeId} {q c : Nat} {R : List α} (h : Own enc sz w base e (some ⟨q, 0, none⟩) c R) {n : Nat} (hn : n ≤ R.length) : Own enc sz w base e (some ⟨q, 0, none⟩) c (R.take n) := by
  obtain ⟨cur, h1, h2, h3, h4, h5, h6⟩ := own_block h
  have hl : (R.take n).length = n := by simp; omega
  have e1 : n * sz ≤ R.length * sz := Nat.mul_le_mul_right _ hn
  refine ⟨flat_len he _, .inr ⟨q, c, cur, rfl, h1, h2, by omega, h4, h5, ?_⟩⟩
  rw [hl, flat_take he, ← h6, List.take_take, Nat.min_eq_left e1]
end
end Go.Proofs.Ytdfklbjkcednhaa
