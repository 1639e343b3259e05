/- Texts laid as one: Del, Wide, Put. -/
import Derived.Test.YtpimflmmfnffeaaZ1
import Derived.Lib.SlicesDelete
import Derived.Lib.SliceRun
import Derived.Laws.IdiomCopy
import Derived.Deep.RegionLaw
import Derived.Deep.MidRow
/- Stores side by side into a row of the call's own: what stands in it behind slices.Delete of one element. -/
namespace Go.Proofs.Ytpimflmmfnffeaa
open Go.RowKit Go.Lib

theorem heap_setCells (g : Nat) (t : TypeId) : ∀ (vs : List Value) (o : Nat) (w : World) (cur : Array Value), w.heap[g]? = some (.cells cur t (0, 0)) → (w.setCells g o vs).heap[g]? = some (.cells (lay cur o vs) t (0, 0))
  | [], _, _, _, h => h
  | v :: r, o, w, cur, h => by
    rw [World.setCells, lay]
    exact heap_setCells g t r (o + 1) _ _ (by simp [World.setCell, Array.getElem?_modify, h])
theorem grown_setCells (g : Nat) : ∀ (vs : List Value) (o : Nat) (a w : World), a.grownBy w (some g) → a.grownBy (w.setCells g o vs) (some g)
  | [], _, _, _, h => h
  | v :: r, o, a, w, h => grown_setCells g r (o + 1) a _ (only_set h o v)

section
variable {α : Type} {enc : α → List Value} {sz : Nat}
theorem flat_take (he : ∀ x, (enc x).length = sz) (xs : List α) (i : Nat) : (xs.take i).flatMap enc = (xs.flatMap enc).take (i * sz) := by
  induction xs generalizing i with
  | nil => simp
  | cons x xs ih =>
    cases i with
    | zero => simp
    | succ i =>
      rw [List.take_succ_cons, List.flatMap_cons, List.flatMap_cons, List.take_append, ih, he, show (i + 1) * sz - sz = i * sz by rw [Nat.add_mul]; omega, List.take_of_length_le (l := enc x) (by rw [he, Nat.add_mul]; omega)]
theorem flat_drop (he : ∀ x, (enc x).length = sz) (xs : List α) (i : Nat) : (xs.drop i).flatMap enc = (xs.flatMap enc).drop (i * sz) := by
  induction xs generalizing i with
  | nil => simp
  | cons x xs ih =>
    cases i with
    | zero => simp
    | succ i =>
      rw [List.drop_succ_cons, List.flatMap_cons, List.drop_append, ih, he, show (i + 1) * sz - sz = i * sz by rw [Nat.add_mul]; omega, show (enc x).drop ((i + 1) * sz) = [] from List.drop_of_length_le (by rw [he, Nat.add_mul]; omega), List.nil_append]

/-- the row behind: what stood ahead of i, what stood behind it -/
theorem lay_gone (cur : Array Value) (F zs : List Value) (i k sz c : Nat) (hF : F.length = (i + 1 + k) * sz) (hc : i + 1 + k ≤ c) (hs : cur.size = c * sz) (ht : cur.toList.take ((i + 1 + k) * sz) = F) (hz : zs.length = sz) :
    (lay (lay cur (i * sz) (F.drop ((i + 1) * sz))) ((i + k) * sz) zs).toList.take ((i + k) * sz) = F.take (i * sz) ++ F.drop ((i + 1) * sz) := by
  have e1 : (i + 1 + k) * sz = i * sz + sz + k * sz := by rw [Nat.add_mul, Nat.add_mul, Nat.one_mul]
  have e2 : (i + k) * sz = i * sz + k * sz := Nat.add_mul _ _ _
  have e3 : (i + 1) * sz = i * sz + sz := by rw [Nat.add_mul, Nat.one_mul]
  have e4 : (i + 1 + k) * sz ≤ c * sz := Nat.mul_le_mul_right _ hc
  have hd : (F.drop ((i + 1) * sz)).length = k * sz := by rw [List.length_drop, hF]; omega
  apply List.ext_getElem?
  intro j
  rw [List.getElem?_take]
  by_cases h1 : j < (i + k) * sz
  · rw [if_pos h1, Array.getElem?_toList, lay_get? _ _ _ _ (by rw [lay_size, hz]; omega), if_neg (by omega), lay_get? _ _ _ _ (by rw [hd]; omega), hd]
    by_cases h2 : j < i * sz
    · rw [if_neg (by omega), List.getElem?_append_left (by rw [List.length_take, hF]; omega), List.getElem?_take, if_pos h2, ← ht, List.getElem?_take, if_pos (by omega), Array.getElem?_toList]
    · rw [if_pos (by omega), List.getElem?_append_right (by rw [List.length_take, hF]; omega), List.length_take, hF, Nat.min_eq_left (by omega)]
  · rw [if_neg h1, List.getElem?_eq_none]
    rw [List.length_append, List.length_take, hd, hF]
    omega

theorem own_block {w : World} {base : Nat} {e : TypeId} {g c : Nat} {xs : List α} (h : Own enc sz w base e (some ⟨g, 0, none⟩) c xs) :
    ∃ cur, base ≤ g ∧ w.heap[g]? = some (.cells cur e (0, 0)) ∧ xs.length ≤ c ∧ c ≤ maxLen ∧ cur.size = c * sz ∧ cur.toList.take (xs.length * sz) = xs.flatMap enc := by
  rcases h.2 with ⟨h', _⟩ | ⟨g', cap', cur, h', a1, a2, a3, a4, a5, a6⟩
  · simp at h'
  · simp only [Value.slice.injEq, Option.some.injEq, Addr.mk.injEq, and_true, true_and] at h'
    obtain ⟨rfl, rfl⟩ := h'
    exact ⟨cur, a1, a2, a3, a4, a5, a6⟩
/-- any cell of the row's block is there, and is not frozen -/
theorem own_room {w : World} {base : Nat} {e : TypeId} {g c : Nat} {xs : List α} (h : Own enc sz w base e (some ⟨g, 0, none⟩) c xs) (j : Nat) (hj : j < c * sz) : (w.cell? ⟨g, j, none⟩).isSome = true ∧ w.frozen? ⟨g, j, none⟩ = false := by
  obtain ⟨cur, _, h2, _, _, h5, _⟩ := own_block h
  refine ⟨?_, by simp [World.frozen?, h2]⟩
  rw [cell_of_row w g j cur e (0, 0) h2, Array.getElem?_eq_getElem (by omega)]
  rfl
/-- the row behind slices.Delete of one -/
theorem own_gone {w : World} {base : Nat} {e : TypeId} {g c : Nat} {xs : List α} (he : ∀ x, (enc x).length = sz) (h : Own enc sz w base e (some ⟨g, 0, none⟩) c xs) (i k : Nat) (hn : xs.length = i + 1 + k) (zs : List Value) (hz : zs.length = sz) :
    Own enc sz ((w.setCells g (i * sz) ((xs.drop (i + 1)).flatMap enc)).setCells g ((i + k) * sz) zs) base e (some ⟨g, 0, none⟩) c (xs.eraseIdx i) ∧ w.grownBy ((w.setCells g (i * sz) ((xs.drop (i + 1)).flatMap enc)).setCells g ((i + k) * sz) zs) (some g) := by
  obtain ⟨cur, a1, a2, a3, a4, a5, a6⟩ := own_block h
  refine ⟨?_, grown_setCells g _ _ _ _ (grown_setCells g _ _ _ _ (only_refl w g))⟩
  have hl : (xs.eraseIdx i).length = i + k := by rw [List.length_eraseIdx, if_pos (by omega)]; omega
  have hfl := flat_len he xs
  refine ⟨flat_len he _, .inr ⟨g, c, _, rfl, a1, heap_setCells g e _ _ _ _ (heap_setCells g e _ _ _ _ a2), by omega, a4, by rw [lay_size, lay_size, a5], ?_⟩⟩
  rw [hl, List.eraseIdx_eq_take_drop_succ, List.flatMap_append, flat_take he, flat_drop he]
  exact lay_gone cur _ zs i k sz c (by rw [hfl, hn]) (by omega) a5 (by rw [← hn]; exact a6) hz
end

/-- 'clear(s)', s a slice of one element of several cells -/
theorem run_clear_one {P : Program} (w : World) (t e ty : TypeId) (z : Value) (ht : P.underlying t = some (.slice e)) (hv : ∀ w, (zeroValue e).run P w = .ok z w) (zs : List Value) (hz : (Builtin.zeroCells z.cells 1).toList = zs) (h1 : ∀ u ∈ zs, u.oneCell' = true) (b o n c : Nat) (hn : n = 1)
    (hc : ∀ j, j < zs.length → (w.cell? ⟨b, o + j, none⟩).isSome = true ∧ w.frozen? ⟨b, o + j, none⟩ = false) :
    (Builtin.clear_ #[t] ty #[.slice (some ⟨b, o, none⟩) n c]).run P w = .ok (.tuple #[]) (w.setCells b o zs) := by
  subst hn
  have hst := run_storeCells_cells (P := P) b o zs 0 w (fun j hj => (hc j hj).1) (fun j hj => (hc j hj).2) h1
  simp only [Nat.add_zero] at hst
  simp [Builtin.clear_, run_underlying ht, hv, hz, hst]
end Go.Proofs.Ytpimflmmfnffeaa

/- A struct of many cells, loaded and stored whole: no cell is opened. -/
namespace Go.Proofs.Ytpimflmmfnffeaa
open Go.RowKit Go.Lib

theorem lay_all (cur : Array Value) (L : List Value) (h : cur.size = L.length) : lay cur 0 L = L.toArray := by
  apply Array.ext_getElem?
  intro j
  rw [lay_get? _ _ _ _ (by omega)]
  by_cases hj : j < L.length
  · rw [if_pos (by omega), Nat.sub_zero, List.getElem?_toArray]
  · rw [if_neg (by omega), Array.getElem?_eq_none (by omega), List.getElem?_toArray, List.getElem?_eq_none (by omega)]
section
variable {w : World} {g : Nat} {t : TypeId} {cur : Array Value}
theorem Blk.fill (h : Blk w g t cur) (L : List Value) (hl : cur.size = L.length) : Blk (w.setCells g 0 L) g t L.toArray := by
  have := heap_setCells g t L 0 w cur h
  rw [lay_all cur L hl] at this
  exact this
theorem Blk.there (h : Blk w g t cur) {n : Nat} (hn : n ≤ cur.size) : w.there g 0 n := fun j hj => by
  rw [Nat.zero_add]
  refine ⟨?_, h.frozen j⟩
  rw [h.cell j _ (Array.getElem?_eq_getElem (by omega))]
  rfl
theorem Blk.range {L : List Value} (h : Blk w g t L.toArray) : w.rangeAt g 0 L := fun j v hv => by
  rw [Nat.zero_add]
  exact h.cell j v (by rw [List.getElem?_toArray]; exact hv)
end
theorem size_setCells (g : Nat) : ∀ (vs : List Value) (o : Nat) (w : World), (w.setCells g o vs).heap.size = w.heap.size
  | [], _, _ => rfl
  | v :: r, o, w => by rw [World.setCells, size_setCells g r (o + 1)]; simp [World.setCell]
/-- behind a new box, filled whole -/
theorem box_filled (w : World) (t : TypeId) (Z : Array Value) (L : List Value) (hl : Z.size = L.length) :
    Blk ((w.alloc (.cells Z t)).setCells w.heap.size 0 L) w.heap.size t L.toArray ∧ Below w.heap.size w ((w.alloc (.cells Z t)).setCells w.heap.size 0 L) := by
  refine ⟨(Blk.new w t Z).fill L hl, ?_⟩
  exact below_only (below1 w _) (grown_setCells w.heap.size L 0 _ _ (only_refl _ _)) (Nat.le_refl _)
/-- a new box is filled: what stands in it, and what was there -/
theorem wpList_store_box {P : Program} {ops : Array Oper} {rest : List Oper} {op : Oper} {a : Act} {Q : Exit → Act → World → Prop} (w : World) (t : TypeId) (Z : Array Value) (L : List Value) (hgd : op.guard = none) (x y : Operand) (ho : op.op = .store t x y)
    (hx : a.eval x = .pointer (some ⟨w.heap.size, 0, none⟩)) (hy : a.eval y = .agg L.toArray) (hl : Z.size = L.length) (hi : (P.info? t).map (·.size) = some L.length) (h1 : ∀ v ∈ L, v.oneCell' = true)
    (h : ∀ w3, Blk w3 w.heap.size t L.toArray → Below w.heap.size w w3 → w3.heap.size = w.heap.size + 1 → wpList P ops Q rest (a.put op.dst undef) w3) : wpList P ops Q (op :: rest) a (w.alloc (.cells Z t)) := by
  refine wpList_store_mid hgd t x y ho w.heap.size 0 L.toArray hx hy ((Blk.new w t Z).there (by simp [hl])) (by simpa using hi) (all_oneCell_toArray h1) ?_
  obtain ⟨b1, b2⟩ := box_filled w t Z L hl
  exact h _ b1 b2 (by rw [size_setCells]; simp)
theorem run_storeVar_cell {P : Program} (w : World) (g i : Nat) (ty : TypeId) (v : Value) (hi : (P.info? ty).map (·.size) = some 1) (h1 : v.oneCell' = true) (hc : w.there g i 1) : (storeVar ty ⟨g, i, none⟩ v).run P w = .ok () (w.setCell ⟨g, i, none⟩ v) := by
  have := run_storeCells_cells (P := P) g i [v] 0 w (fun j hj => by simpa using (hc j (by simpa using hj)).1) (fun j hj => by simpa using (hc j (by simpa using hj)).2) (fun x hx => by simp at hx; subst hx; exact h1)
  have hcs : v.cells = #[v] := by cases v <;> first | rfl | cases h1
  cases hq : P.info? ty with
  | none => simp [hq] at hi
  | some u =>
    have hs : u.size = 1 := by simpa [hq] using hi
    simp only [Nat.add_zero] at this
    simp [storeVar, sizeOf, typeInfo, hq, hcs, hs, this]
    rfl
/-- one cell is stored -/
theorem wpList_store_cell {P : Program} {ops : Array Oper} {rest : List Oper} {op : Oper} {a : Act} {Q : Exit → Act → World → Prop} (w : World) (hgd : op.guard = none) (ty : TypeId) (x y : Operand) (ho : op.op = .store ty x y) (g i : Nat) (v : Value)
    (hx : a.eval x = .pointer (some ⟨g, i, none⟩)) (hy : a.eval y = v) (hi : (P.info? ty).map (·.size) = some 1) (h1 : v.oneCell' = true) (hc : w.there g i 1)
    (h : wpList P ops Q rest (a.put op.dst undef) (w.setCell ⟨g, i, none⟩ v)) : wpList P ops Q (op :: rest) a w :=
  wpList_plain hgd fun _ hK => by
    unfold Oper.wp execOp
    simp only [ho, hx, hy, Instr.storeAt, Instr.sureAddr, Sem.run_bind, Sem.run_pure, Result.andThen_ok, run_storeVar_cell w g i ty v hi h1 hc]
    exact hK _ _ h
theorem Blk.one {w : World} {g : Nat} {t : TypeId} {cs : Array Value} (h : Blk w g t cs) {i : Nat} (hi : i < cs.size) : w.there g i 1 := fun j hj => by
  obtain rfl : j = 0 := by omega
  rw [Nat.add_zero]
  refine ⟨?_, h.frozen i⟩
  rw [h.cell i _ (Array.getElem?_eq_getElem hi)]
  rfl
end Go.Proofs.Ytpimflmmfnffeaa

/- One element of a row of the call's own, stored whole. -/
namespace Go.Proofs.Ytpimflmmfnffeaa
open Go.RowKit Go.Lib

section
variable {α : Type} {enc : α → List Value} {sz : Nat}
theorem lay_flat (he : ∀ x, (enc x).length = sz) (h0 : 0 < sz) (cur : Array Value) (R : List α) (i c : Nat) (x : α) (hi : i < R.length) (hc : R.length ≤ c) (hs : cur.size = c * sz) (ht : cur.toList.take (R.length * sz) = R.flatMap enc) :
    (lay cur (i * sz) (enc x)).toList.take (R.length * sz) = (R.set i x).flatMap enc := by
  have e1 : (i + 1) * sz ≤ R.length * sz := Nat.mul_le_mul_right _ hi
  have e2 : R.length * sz ≤ c * sz := Nat.mul_le_mul_right _ hc
  rw [Nat.add_mul, Nat.one_mul] at e1
  apply List.ext_getElem?
  intro j
  by_cases hj : j < R.length * sz
  · rw [List.getElem?_take, if_pos hj, Array.getElem?_toList, lay_get? _ _ _ _ (by rw [he]; omega), he]
    have hq : j / sz < R.length := Nat.div_lt_of_lt_mul (by rw [Nat.mul_comm]; exact hj)
    have hjd : j / sz * sz + j % sz = j := by rw [Nat.mul_comm]; exact Nat.div_add_mod j sz
    have hr : j % sz < sz := Nat.mod_lt _ h0
    by_cases hqi : j / sz = i
    · have h1 := flat_at he (R.set i x) i x (j % sz) (by simp [hi]) hr
      rw [hqi] at hjd
      rw [if_pos (by omega), show j - i * sz = j % sz by omega, ← h1, hjd]
    · have h1 := flat_at he (R.set i x) (j / sz) R[j / sz] (j % sz) (by rw [List.getElem?_set_ne (by omega), List.getElem?_eq_getElem hq]) hr
      have h2 := flat_at he R (j / sz) R[j / sz] (j % sz) (List.getElem?_eq_getElem hq) hr
      have hne : ¬ (i * sz ≤ j ∧ j < i * sz + sz) := by
        intro hh
        rcases Nat.lt_or_ge (j / sz) i with hlt | hge
        · have := Nat.mul_le_mul_right sz hlt
          rw [Nat.succ_mul] at this
          omega
        · have hlt : i + 1 ≤ j / sz := by omega
          have := Nat.mul_le_mul_right sz hlt
          rw [Nat.add_mul, Nat.one_mul] at this
          omega
      rw [hjd] at h1 h2
      rw [if_neg hne, h1, ← h2, ← ht, List.getElem?_take, if_pos hj, Array.getElem?_toList]
  · rw [List.getElem?_eq_none (by rw [List.length_take]; omega), List.getElem?_eq_none (by rw [flat_len he, List.length_set]; omega)]
theorem own_put (he : ∀ x, (enc x).length = sz) (h0 : 0 < sz) {w : World} {base : Nat} {e : TypeId} {q c : Nat} {R : List α} (h : Own enc sz w base e (some ⟨q, 0, none⟩) c R) {i : Nat} (hi : i < R.length) (x : α) :
    Own enc sz (w.setCells q (i * sz) (enc x)) base e (some ⟨q, 0, none⟩) c (R.set i x) ∧ w.grownBy (w.setCells q (i * sz) (enc x)) (some q) := by
  obtain ⟨cur, h1, h2, h3, h4, h5, h6⟩ := own_block h
  refine ⟨?_, grown_setCells q _ _ w w (only_refl w q)⟩
  have h7 := heap_setCells q e (enc x) (i * sz) w cur h2
  have h8 := lay_flat he h0 cur R i c x hi h3 h5 h6
  exact ⟨flat_len he _, .inr ⟨q, c, _, rfl, h1, h7, by rw [List.length_set]; exact h3, h4, by rw [lay_size]; exact h5, by rw [List.length_set]; exact h8⟩⟩
/-- the cells of one element -/
theorem own_cell (he : EncOk enc sz) {w : World} {base : Nat} {e : TypeId} {q c : Nat} {R : List α} (h : Own enc sz w base e (some ⟨q, 0, none⟩) c R) {i : Nat} (hi : i < R.length) {j : Nat} {v : Value} (hj : (enc R[i])[j]? = some v) : w.cell? ⟨q, i * sz + j, none⟩ = some v := by
  obtain ⟨b, off, hA, hc⟩ := (h.sl he).at_ hi
  injection hA with hA
  injection hA with h1 h2
  subst h1 h2
  simpa using hc j v hj
theorem own_range (he : EncOk enc sz) {w : World} {base : Nat} {e : TypeId} {q c : Nat} {R : List α} (h : Own enc sz w base e (some ⟨q, 0, none⟩) c R) {i : Nat} (hi : i < R.length) : w.rangeAt q (i * sz) (enc R[i]) := fun _ _ hj => own_cell he h hi hj
theorem own_there {w : World} {base : Nat} {e : TypeId} {q c : Nat} {R : List α} (h : Own enc sz w base e (some ⟨q, 0, none⟩) c R) {i : Nat} (hi : i < c) : w.there q (i * sz) sz := fun j hj => by
  have e1 : (i + 1) * sz ≤ c * sz := Nat.mul_le_mul_right _ hi
  rw [Nat.add_mul, Nat.one_mul] at e1
  exact own_room h (i * sz + j) (by omega)
/-- .. cut at its end, in its place -/
theorem own_cut (he : ∀ x, (enc x).length = sz) {w : World} {base : Nat} {e : TypeId} {q c : Nat} {R : List α} (h : Own enc sz w base e (some ⟨q, 0, none⟩) c R) {n : Nat} (hn : n ≤ R.length) : Own enc sz w base e (some ⟨q, 0, none⟩) c (R.take n) := by
  obtain ⟨cur, h1, h2, h3, h4, h5, h6⟩ := own_block h
  have hl : (R.take n).length = n := by simp; omega
  have e1 : n * sz ≤ R.length * sz := Nat.mul_le_mul_right _ hn
  refine ⟨flat_len he _, .inr ⟨q, c, cur, rfl, h1, h2, by omega, h4, h5, ?_⟩⟩
  rw [hl, flat_take he, ← h6, List.take_take, Nat.min_eq_left e1]
end
end Go.Proofs.Ytpimflmmfnffeaa
