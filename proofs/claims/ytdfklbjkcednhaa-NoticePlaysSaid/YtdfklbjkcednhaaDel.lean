/- Stores side by side into a row of the call's own: what stands in it behind slices.Delete of one element. -/
import Derived.Test.YtdfklbjkcednhaaApp
import Derived.Test.YtdfklbjkcednhaaBlk
import Derived.Lib.SlicesDelete
import Derived.Lib.SliceRun
import Derived.Laws.IdiomCopy
import Derived.Deep.RegionLaw
namespace Go.Proofs.Ytdfklbjkcednhaa
open Go.RowKit Go.Lib

theorem heap_setCells (g : Nat) (t : TypeId) : ∀ (vs : List Value) (o : Nat) (w : World) (cur : Array Value), w.heap[g]? = some (.cells cur t (0, 0)) → (w.setCells g o vs).heap[g]? = some (.cells (lay cur o vs) t (0, 0))
  | [], _, _, _, h => h
  | v :: r, o, w, cur, h => by
    rw [World.setCells, lay]
    exact heap_setCells g t r (o + 1) _ _ (by simp [World.setCell, Array.getElem?_modify, h])
theorem grown_setCells (g : Nat) : ∀ (vs : List Value) (o : Nat) (a w : World), a.grownBy w (some g) → a.grownBy (w.setCells g o vs) (some g)
  | [], _, _, _, h => h
  | v :: r, o, a, w, h => grown_setCells g r (o + 1) a _ (only_set h o v)

section
variable {α : Type} {enc : α → List Value} {sz : Nat}
theorem flat_take (he : ∀ x, (enc x).length = sz) (xs : List α) (i : Nat) : (xs.take i).flatMap enc = (xs.flatMap enc).take (i * sz) := by
  induction xs generalizing i with
  | nil => simp
  | cons x xs ih =>
    cases i with
    | zero => simp
    | succ i =>
      rw [List.take_succ_cons, List.flatMap_cons, List.flatMap_cons, List.take_append, ih, he, show (i + 1) * sz - sz = i * sz by rw [Nat.add_mul]; omega, List.take_of_length_le (l := enc x) (by rw [he, Nat.add_mul]; omega)]
theorem flat_drop (he : ∀ x, (enc x).length = sz) (xs : List α) (i : Nat) : (xs.drop i).flatMap enc = (xs.flatMap enc).drop (i * sz) := by
  induction xs generalizing i with
  | nil => simp
  | cons x xs ih =>
    cases i with
    | zero => simp
    | succ i =>
      rw [List.drop_succ_cons, List.flatMap_cons, List.drop_append, ih, he, show (i + 1) * sz - sz = i * sz by rw [Nat.add_mul]; omega, show (enc x).drop ((i + 1) * sz) = [] from List.drop_of_length_le (by rw [he, Nat.add_mul]; omega), List.nil_append]

/-- the row behind: what stood ahead of i, what stood behind it -/
theorem lay_gone (cur : Array Value) (F zs : List Value) (i k sz c : Nat) (hF : F.length = (i + 1 + k) * sz) (hc : i + 1 + k ≤ c) (hs : cur.size = c * sz) (ht : cur.toList.take ((i + 1 + k) * sz) = F) (hz : zs.length = sz) :
    (lay (lay cur (i * sz) (F.drop ((i + 1) * sz))) ((i + k) * sz) zs).toList.take ((i + k) * sz) = F.take (i * sz) ++ F.drop ((i + 1) * sz) := by
  have e1 : (i + 1 + k) * sz = i * sz + sz + k * sz := by rw [Nat.add_mul, Nat.add_mul, Nat.one_mul]
  have e2 : (i + k) * sz = i * sz + k * sz := Nat.add_mul _ _ _
  have e3 : (i + 1) * sz = i * sz + sz := by rw [Nat.add_mul, Nat.one_mul]
  have e4 : (i + 1 + k) * sz ≤ c * sz := Nat.mul_le_mul_right _ hc
  have hd : (F.drop ((i + 1) * sz)).length = k * sz := by rw [List.length_drop, hF]; omega
  apply List.ext_getElem?
  intro j
  rw [List.getElem?_take]
  by_cases h1 : j < (i + k) * sz
  · rw [if_pos h1, Array.getElem?_toList, lay_get? _ _ _ _ (by rw [lay_size, hz]; omega), if_neg (by omega), lay_get? _ _ _ _ (by rw [hd]; omega), hd]
    by_cases h2 : j < i * sz
    · rw [if_neg (by omega), List.getElem?_append_left (by rw [List.length_take, hF]; omega), List.getElem?_take, if_pos h2, ← ht, List.getElem?_take, if_pos (by omega), Array.getElem?_toList]
    · rw [if_pos (by omega), List.getElem?_append_right (by rw [List.length_take, hF]; omega), List.length_take, hF, Nat.min_eq_left (by omega)]
  · rw [if_neg h1, List.getElem?_eq_none]
    rw [List.length_append, List.length_take, hd, hF]
    omega

theorem own_block {w : World} {base : Nat} {e : TypeId} {g c : Nat} {xs : List α} (h : Own enc sz w base e (some ⟨g, 0, none⟩) c xs) :
    ∃ cur, base ≤ g ∧ w.heap[g]? = some (.cells cur e (0, 0)) ∧ xs.length ≤ c ∧ c ≤ maxLen ∧ cur.size = c * sz ∧ cur.toList.take (xs.length * sz) = xs.flatMap enc := by
  rcases h.2 with ⟨h', _⟩ | ⟨g', cap', cur, h', a1, a2, a3, a4, a5, a6⟩
  · simp at h'
  · simp only [Value.slice.injEq, Option.some.injEq, Addr.mk.injEq, and_true, true_and] at h'
    obtain ⟨rfl, rfl⟩ := h'
    exact ⟨cur, a1, a2, a3, a4, a5, a6⟩
/-- any cell of the row's block is there, and is not frozen -/
theorem own_room {w : World} {base : Nat} {e : TypeId} {g c : Nat} {xs : List α} (h : Own enc sz w base e (some ⟨g, 0, none⟩) c xs) (j : Nat) (hj : j < c * sz) : (w.cell? ⟨g, j, none⟩).isSome = true ∧ w.frozen? ⟨g, j, none⟩ = false := by
  obtain ⟨cur, _, h2, _, _, h5, _⟩ := own_block h
  refine ⟨?_, by simp [World.frozen?, h2]⟩
  rw [cell_of_row w g j cur e (0, 0) h2, Array.getElem?_eq_getElem (by omega)]
  rfl
/-- the row behind slices.Delete of one -/
theorem own_gone {w : World} {base : Nat} {e : TypeId} {g c : Nat} {xs : List α} (he : ∀ x, (enc x).length = sz) (h : Own enc sz w base e (some ⟨g, 0, none⟩) c xs) (i k : Nat) (hn : xs.length = i + 1 + k) (zs : List Value) (hz : zs.length = sz) :
    Own enc sz ((w.setCells g (i * sz) ((xs.drop (i + 1)).flatMap enc)).setCells g ((i + k) * sz) zs) base e (some ⟨g, 0, none⟩) c (xs.eraseIdx i) ∧ w.grownBy ((w.setCells g (i * sz) ((xs.drop (i + 1)).flatMap enc)).setCells g ((i + k) * sz) zs) (some g) := by
  obtain ⟨cur, a1, a2, a3, a4, a5, a6⟩ := own_block h
  refine ⟨?_, grown_setCells g _ _ _ _ (grown_setCells g _ _ _ _ (only_refl w g))⟩
  have hl : (xs.eraseIdx i).length = i + k := by rw [List.length_eraseIdx, if_pos (by omega)]; omega
  have hfl := flat_len he xs
  refine ⟨flat_len he _, .inr ⟨g, c, _, rfl, a1, heap_setCells g e _ _ _ _ (heap_setCells g e _ _ _ _ a2), by omega, a4, by rw [lay_size, lay_size, a5], ?_⟩⟩
  rw [hl, List.eraseIdx_eq_take_drop_succ, List.flatMap_append, flat_take he, flat_drop he]
  exact lay_gone cur _ zs i k sz c (by rw [hfl, hn]) (by omega) a5 (by rw [← hn]; exact a6) hz
end

/-- 'clear(s)', s a slice of one element of several cells -/
theorem run_clear_one {P : Program} (w : World) (t e ty : TypeId) (z : Value) (ht : P.underlying t = some (.slice e)) (hv : ∀ w, (zeroValue e).run P w = .ok z w) (zs : List Value) (hz : (Builtin.zeroCells z.cells 1).toList = zs) (h1 : ∀ u ∈ zs, u.oneCell' = true) (b o n c : Nat) (hn : n = 1)
    (hc : ∀ j, j < zs.length → (w.cell? ⟨b, o + j, none⟩).isSome = true ∧ w.frozen? ⟨b, o + j, none⟩ = false) :
    (Builtin.clear_ #[t] ty #[.slice (some ⟨b, o, none⟩) n c]).run P w = .ok (.tuple #[]) (w.setCells b o zs) := by
  subst hn
  have hst := run_storeCells_cells (P := P) b o zs 0 w (fun j hj => (hc j hj).1) (fun j hj => (hc j hj).2) h1
  simp only [Nat.add_zero] at hst
  simp [Builtin.clear_, run_underlying ht, hv, hz, hst]
end Go.Proofs.Ytdfklbjkcednhaa
