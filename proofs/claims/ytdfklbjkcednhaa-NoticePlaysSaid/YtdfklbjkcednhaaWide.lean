/- A struct of many cells, loaded and stored whole: no cell is opened. -/
import Derived.Test.YtdfklbjkcednhaaApp
import Derived.Test.YtdfklbjkcednhaaBlk
import Derived.Test.YtdfklbjkcednhaaDel
import Derived.Deep.MidRow
namespace Go.Proofs.Ytdfklbjkcednhaa
open Go.RowKit Go.Lib

theorem lay_all (cur : Array Value) (L : List Value) (h : cur.size = L.length) : lay cur 0 L = L.toArray := by
  apply Array.ext_getElem?
  intro j
  rw [lay_get? _ _ _ _ (by omega)]
  by_cases hj : j < L.length
  · rw [if_pos (by omega), Nat.sub_zero, List.getElem?_toArray]
  · rw [if_neg (by omega), Array.getElem?_eq_none (by omega), List.getElem?_toArray, List.getElem?_eq_none (by omega)]
section
variable {w : World} {g : Nat} {t : TypeId} {cur : Array Value}
theorem Blk.fill (h : Blk w g t cur) (L : List Value) (hl : cur.size = L.length) : Blk (w.setCells g 0 L) g t L.toArray := by
  have := heap_setCells g t L 0 w cur h
  rw [lay_all cur L hl] at this
  exact this
theorem Blk.there (h : Blk w g t cur) {n : Nat} (hn : n ≤ cur.size) : w.there g 0 n := fun j hj => by
  rw [Nat.zero_add]
  refine ⟨?_, h.frozen j⟩
  rw [h.cell j _ (Array.getElem?_eq_getElem (by omega))]
  rfl
theorem Blk.range {L : List Value} (h : Blk w g t L.toArray) : w.rangeAt g 0 L := fun j v hv => by
  rw [Nat.zero_add]
  exact h.cell j v (by rw [List.getElem?_toArray]; exact hv)
end
theorem size_setCells (g : Nat) : ∀ (vs : List Value) (o : Nat) (w : World), (w.setCells g o vs).heap.size = w.heap.size
  | [], _, _ => rfl
  | v :: r, o, w => by rw [World.setCells, size_setCells g r (o + 1)]; simp [World.setCell]
/-- behind a new box, filled whole -/
theorem box_filled (w : World) (t : TypeId) (Z : Array Value) (L : List Value) (hl : Z.size = L.length) :
    Blk ((w.alloc (.cells Z t)).setCells w.heap.size 0 L) w.heap.size t L.toArray ∧ Below w.heap.size w ((w.alloc (.cells Z t)).setCells w.heap.size 0 L) := by
  refine ⟨(Blk.new w t Z).fill L hl, ?_⟩
  exact below_only (below1 w _) (grown_setCells w.heap.size L 0 _ _ (only_refl _ _)) (Nat.le_refl _)
/-- a new box is filled: what stands in it, and what was there -/
theorem wpList_store_box {P : Program} {ops : Array Oper} {rest : List Oper} {op : Oper} {a : Act} {Q : Exit → Act → World → Prop} (w : World) (t : TypeId) (Z : Array Value) (L : List Value) (hgd : op.guard = none) (x y : Operand) (ho : op.op = .store t x y)
    (hx : a.eval x = .pointer (some ⟨w.heap.size, 0, none⟩)) (hy : a.eval y = .agg L.toArray) (hl : Z.size = L.length) (hi : (P.info? t).map (·.size) = some L.length) (h1 : ∀ v ∈ L, v.oneCell' = true)
    (h : ∀ w3, Blk w3 w.heap.size t L.toArray → Below w.heap.size w w3 → w3.heap.size = w.heap.size + 1 → wpList P ops Q rest (a.put op.dst undef) w3) : wpList P ops Q (op :: rest) a (w.alloc (.cells Z t)) := by
  refine wpList_store_mid hgd t x y ho w.heap.size 0 L.toArray hx hy ((Blk.new w t Z).there (by simp [hl])) (by simpa using hi) (all_oneCell_toArray h1) ?_
  obtain ⟨b1, b2⟩ := box_filled w t Z L hl
  exact h _ b1 b2 (by rw [size_setCells]; simp)
theorem run_storeVar_cell {P : Program} (w : World) (g i : Nat) (ty : TypeId) (v : Value) (hi : (P.info? ty).map (·.size) = some 1) (h1 : v.oneCell' = true) (hc : w.there g i 1) : (storeVar ty ⟨g, i, none⟩ v).run P w = .ok () (w.setCell ⟨g, i, none⟩ v) := by
  have := run_storeCells_cells (P := P) g i [v] 0 w (fun j hj => by simpa using (hc j (by simpa using hj)).1) (fun j hj => by simpa using (hc j (by simpa using hj)).2) (fun x hx => by simp at hx; subst hx; exact h1)
  have hcs : v.cells = #[v] := by cases v <;> first | rfl | cases h1
  cases hq : P.info? ty with
  | none => simp [hq] at hi
  | some u =>
    have hs : u.size = 1 := by simpa [hq] using hi
    simp only [Nat.add_zero] at this
    simp [storeVar, sizeOf, typeInfo, hq, hcs, hs, this]
    rfl
/-- one cell is stored -/
theorem wpList_store_cell {P : Program} {ops : Array Oper} {rest : List Oper} {op : Oper} {a : Act} {Q : Exit → Act → World → Prop} (w : World) (hgd : op.guard = none) (ty : TypeId) (x y : Operand) (ho : op.op = .store ty x y) (g i : Nat) (v : Value)
    (hx : a.eval x = .pointer (some ⟨g, i, none⟩)) (hy : a.eval y = v) (hi : (P.info? ty).map (·.size) = some 1) (h1 : v.oneCell' = true) (hc : w.there g i 1)
    (h : wpList P ops Q rest (a.put op.dst undef) (w.setCell ⟨g, i, none⟩ v)) : wpList P ops Q (op :: rest) a w :=
  wpList_plain hgd fun _ hK => by
    unfold Oper.wp execOp
    simp only [ho, hx, hy, Instr.storeAt, Instr.sureAddr, Sem.run_bind, Sem.run_pure, Result.andThen_ok, run_storeVar_cell w g i ty v hi h1 hc]
    exact hK _ _ h
theorem Blk.one {w : World} {g : Nat} {t : TypeId} {cs : Array Value} (h : Blk w g t cs) {i : Nat} (hi : i < cs.size) : w.there g i 1 := fun j hj => by
  obtain rfl : j = 0 := by omega
  rw [Nat.add_zero]
  refine ⟨?_, h.frozen i⟩
  rw [h.cell i _ (Array.getElem?_eq_getElem hi)]
  rfl
end Go.Proofs.Ytdfklbjkcednhaa
