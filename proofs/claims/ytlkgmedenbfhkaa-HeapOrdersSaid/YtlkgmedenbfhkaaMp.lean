/- A map with integer keys of which nothing is asked but that it is there: stores and deletes. -/
import Derived.Test.YtlkgmedenbfhkaaBlk
import Derived.MapKept
import Derived.Maps.OwnSet
import Derived.Maps.OwnOps
namespace Go.Proofs.Ytlkgmedenbfhkaa
open Go.RowKit

def MapI (w : World) (b : Nat) : Prop := ∃ es clock, w.heap[b]? = some (.map es clock) ∧ ∀ x ∈ es.toList, MapKept.IsKey (.int .i64) x.key
section
variable {w w' : World} {b : Nat}
theorem MapI.lt (h : MapI w b) : b < w.heap.size := by
  obtain ⟨es, c, h1, _⟩ := h
  rcases Nat.lt_or_ge b w.heap.size with hlt | hge
  · exact hlt
  · rw [Array.getElem?_eq_none hge] at h1; cases h1
theorem MapI.keep (h : MapI w b) (hb : Below w.heap.size w w') : MapI w' b := by
  have hlt := h.lt
  obtain ⟨es, c, h1, h2⟩ := h
  exact ⟨es, c, (hb.block b hlt).trans h1, h2⟩
theorem MapI.far {g : Nat} (h : MapI w b) (hg : w.grownBy w' (some g)) (hne : b ≠ g) : MapI w' b := by
  have hlt := h.lt
  obtain ⟨es, c, h1, h2⟩ := h
  exact ⟨es, c, (hg.block b hlt (fun e => hne (by injection e))).trans h1, h2⟩
theorem MapI.drew (h : MapI w b) : MapI w.drew b := h
theorem only_map {es : Array MapEntry} {c : Nat} {o : Obj} (hb : w.heap[b]? = some (.map es c)) : w.grownBy { w with heap := w.heap.setIfInBounds b o } (some b) :=
  ⟨rfl, rfl, rfl, by simp, fun i _ hne => (MapKept.heap_set hb).2 i (fun e => hne (by rw [e]))⟩
theorem map_store {P : Program} {t k e : TypeId} (ht : P.underlying t = some (.map k e)) (hk : P.underlying k = some (.int .i64)) (h : MapI w b) (x : Int) (v : Value) :
    ∃ w', (Instr.mapUpdate t (.map (some b)) (.int .i64 x) v).run P w = .ok () w' ∧ MapI w' b ∧ w.grownBy w' (some b) := by
  obtain ⟨es, c, h1, h2⟩ := h
  have hx : MapKept.IsKey (.int .i64) (.int .i64 x) := by simp [MapKept.IsKey]
  rcases MapKept.findNow_spec hx es.toList 0 h2 with ⟨h3, _⟩ | ⟨j, en, h3, h4, h5⟩
  · refine ⟨_, by simp [Instr.mapUpdate, run_underlying ht, MapKept.run_getObj_map h1, MapKept.run_checkKey hk hx, MapKept.run_findKey hk h3, MapKept.run_setObj_map _ h1, Result.andThen]; rfl, ⟨_, _, (MapKept.heap_set h1).1, fun y hy => ?_⟩, only_map h1⟩
    rw [Array.toList_push] at hy
    rcases List.mem_append.1 hy with hy | hy
    · exact h2 y hy
    · rw [List.mem_singleton.1 hy]; exact hx
  · have hj : es[j]? = some en := by simpa using h4
    refine ⟨_, by simp [Instr.mapUpdate, run_underlying ht, MapKept.run_getObj_map h1, MapKept.run_checkKey hk hx, MapKept.run_findKey hk h3, hj, h5, MapKept.run_keyThatStays hx, MapKept.run_setObj_map _ h1, Result.andThen]; rfl, ⟨_, _, (MapKept.heap_set h1).1, ?_⟩, only_map h1⟩
    exact MapKept.isKey_modify h2 j _ (fun e' he' => by rw [hj] at he'; injection he' with he'; subst he'; exact h5.symm)
theorem map_delete {P : Program} {t k e : TypeId} (ht : P.underlying t = some (.map k e)) (hk : P.underlying k = some (.int .i64)) (h : MapI w b) (x : Int) (ty : TypeId) :
    ∃ w', (Builtin.delete_ #[t, k] ty #[.map (some b), .int .i64 x]).run P w = .ok (.tuple #[]) w' ∧ MapI w' b ∧ w.grownBy w' (some b) := by
  obtain ⟨es, c, h1, h2⟩ := h
  have hx : MapKept.IsKey (.int .i64) (.int .i64 x) := by simp [MapKept.IsKey]
  rcases MapKept.findNow_spec hx es.toList 0 h2 with ⟨h3, _⟩ | ⟨j, en, h3, h4, h5⟩
  · exact ⟨_, by simp [Builtin.delete_, run_underlying ht, MapKept.run_getObj_map h1, MapKept.run_checkKey hk hx, MapKept.run_findKey hk h3, MapKept.run_setObj_map _ h1, Result.andThen]; rfl, ⟨_, _, (MapKept.heap_set h1).1, h2⟩, only_map h1⟩
  · refine ⟨_, by simp [Builtin.delete_, run_underlying ht, MapKept.run_getObj_map h1, MapKept.run_checkKey hk hx, MapKept.run_findKey hk h3, MapKept.run_setObj_map _ h1, Result.andThen]; rfl, ⟨_, _, (MapKept.heap_set h1).1, fun y hy => h2 y ?_⟩, only_map h1⟩
    rw [Array.eraseIdxIfInBounds] at hy
    split at hy
    · rw [Array.toList_eraseIdx] at hy
      exact List.mem_of_mem_eraseIdx hy
    · exact hy
end
theorem wpList_store_mapI {P : Program} {ops : Array Oper} {rest : List Oper} {o : Oper} {a : Act} {Q : Exit → Act → World → Prop} (w : World) (hg : o.guard = none) (m x v : Operand) (t k e : TypeId) (hop : o.op = Op.mapUpdate t m x v)
    (ht : P.underlying t = some (.map k e)) (hk : P.underlying k = some (.int .i64)) (b : Nat) (n : Int) (hm : a.eval m = .map (some b)) (hx : a.eval x = .int .i64 n) (h : MapI w b)
    (hK : ∀ w', MapI w' b → w.grownBy w' (some b) → wpList P ops Q rest (a.put o.dst undef) w') : wpList P ops Q (o :: rest) a w := by
  refine wpList_plain hg fun K' hK' => ?_
  obtain ⟨w', hrun, r1, r2⟩ := map_store ht hk h n (a.eval v)
  unfold Oper.wp
  simp [execOp, hop, hm, hx, hrun, Result.andThen]
  exact hK' _ _ (hK w' r1 r2)
theorem wpList_delete_mapI {P : Program} {ops : Array Oper} {rest : List Oper} {o : Oper} {a : Act} {Q : Exit → Act → World → Prop} (w : World) (hg : o.guard = none) (m x : Operand) (t k e : TypeId) (hop : o.op = Op.call { callee := Callee.builtin Builtin.delete, args := #[m, x], argTypes := #[t, k] })
    (ht : P.underlying t = some (.map k e)) (hk : P.underlying k = some (.int .i64)) (b : Nat) (n : Int) (hm : a.eval m = .map (some b)) (hx : a.eval x = .int .i64 n) (h : MapI w b)
    (hK : ∀ w', MapI w' b → w.grownBy w' (some b) → wpList P ops Q rest (a.put o.dst (.tuple #[])) w') : wpList P ops Q (o :: rest) a w := by
  refine wpList_plain hg fun K' hK' => ?_
  obtain ⟨w', hrun, r1, r2⟩ := map_delete ht hk h n o.type
  unfold Oper.wp
  simp [execOp, hop, resolve, invoke, builtin, hm, hx, hrun, Result.andThen]
  exact hK' _ _ (hK w' r1 r2)
end Go.Proofs.Ytlkgmedenbfhkaa
