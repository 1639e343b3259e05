/- Append to an empty row without room: the world only has new blocks. -/
import Derived.Test.YtdfklbjkcednhaaApp
import Derived.ArgAppend
namespace Go.Proofs.Ytdfklbjkcednhaa
open Go.RowKit
section
variable {P : Program} {α : Type} {enc : α → List Value} {sz base : Nat} {e : TypeId}
theorem run_append_fresh {t ty : TypeId} {bytes : Nat} (w : World) (hE : Elem P t e sz bytes) (hc : EncOk enc sz) {G : Nat} (hown : Own enc sz w base e (some ⟨G, 0, none⟩) 0 []) {B : Option Addr} {m d : Nat} {ys : List α} (hm : ys.length = m) (hsl : Sl enc sz w B ys)
    (h63 : m ≤ maxLen) (hbytes : m * bytes ≤ 140737488355328) (hbase : base ≤ w.heap.size) :
    ∃ A' c' w', (Builtin.append_ #[t, t] ty #[.slice (some ⟨G, 0, none⟩) 0 0, .slice B m d]).run P w = .ok (.slice A' m c') w' ∧ Own enc sz w' base e A' c' ys ∧ Below w.heap.size w w' := by
  obtain ⟨A', c', w', hr, ho, hg, _⟩ := run_append_sl (P := P) (ty := ty) w hE hc hown hm (d := d) hsl (by simpa using h63) (by simpa using hbytes) hbase
  simp only [List.length_nil, Nat.zero_add, List.nil_append] at hr ho
  refine ⟨A', c', w', hr, ho, ?_⟩
  obtain ⟨ht, i, z, hi, hz, hs, hby, hzs, h0⟩ := hE
  by_cases hm0 : m = 0
  · subst hm0
    have : w' = w := by
      cases B <;> simp [Builtin.append_, run_underlying ht, sizeOf, typeInfo, hi, Builtin.lenOf, Builtin.firstCells, storeCells] at hr
      · exact hr.2.symm
      · simp [loadCells, loadCellsFrom, storeCells, go_sem] at hr
        exact hr.2.symm
    subst this
    exact Below.refl _ _
  · obtain ⟨b, off, rfl, hcell⟩ := hsl (by omega)
    have hnews : ∀ j u, (ys.flatMap enc)[j]? = some u → w.cell? ((⟨b, off, none⟩ : Addr).add j) = some u := fun j u hu => by
      have hj : j < ys.length * sz := by have := (List.getElem?_eq_some_iff.1 hu).1; rwa [flat_len hc.len] at this
      have hq : j / sz < ys.length := Nat.div_lt_of_lt_mul (by rwa [Nat.mul_comm] at hj)
      have hd : j / sz * sz + j % sz = j := by rw [Nat.mul_comm]; exact Nat.div_add_mod j sz
      have h1 := flat_at hc.len ys (j / sz) ys[j / sz] (j % sz) (List.getElem?_eq_getElem hq) (Nat.mod_lt _ h0)
      rw [hd, hu] at h1
      have := hcell (j / sz) ys[j / sz] (j % sz) u (List.getElem?_eq_getElem hq) h1.symm
      rw [hd] at this
      rw [Addr.add_lit]
      exact this
    obtain ⟨v2, w2, hr2, _, hg2⟩ := run_append_arg_grows (P := P) (w := w) t ty e i z sz bytes ht hi hz hs hby hzs h0 ⟨G, 0, none⟩ 0 0 [] (by simp) (by simp) ⟨b, off, none⟩ m d (ys.flatMap enc) (by rw [flat_len hc.len, hm]) hnews (by omega) (by simpa using h63) (by simpa using hbytes)
    rw [hr] at hr2
    injection hr2 with _ hw
    subst hw
    exact ⟨hg2.os, hg2.tape, hg2.output, hg2.size, fun k hk => hg2.block k hk (by simp)⟩
/-- at a plain region's operation -/
theorem wpList_append_fresh {ops : Array Oper} {rest : List Oper} {o : Oper} {a : Act} {Q : Exit → Act → World → Prop} {t : TypeId} {bytes : Nat} (w : World) (hgd : o.guard = none) (s x : Operand) (ho : o.op = .call { callee := .builtin .append, args := #[s, x], argTypes := #[t, t] })
    (hE : Elem P t e sz bytes) (hc : EncOk enc sz) {G : Nat} (hown : Own enc sz w base e (some ⟨G, 0, none⟩) 0 []) (hs : a.eval s = .slice (some ⟨G, 0, none⟩) 0 0) {B : Option Addr} {m d : Nat} {ys : List α} (hx : a.eval x = .slice B m d) (hm : ys.length = m) (hsl : Sl enc sz w B ys)
    (h63 : m ≤ maxLen) (hbytes : m * bytes ≤ 140737488355328) (hbase : base ≤ w.heap.size)
    (h : ∀ A' c' w', Own enc sz w' base e A' c' ys → Below w.heap.size w w' → wpList P ops Q rest (a.put o.dst (.slice A' m c')) w') : wpList P ops Q (o :: rest) a w := by
  refine wpList_plain hgd fun _ hK => ?_
  obtain ⟨A', c', w', hr, h2, h3⟩ := run_append_fresh (P := P) (ty := o.type) w hE hc hown hm (d := d) hsl h63 hbytes hbase
  unfold Oper.wp execOp
  simp only [ho, resolve, invoke, builtin, Sem.run_bind, Sem.run_pure, Result.andThen_ok, List.map_toArray, List.map_cons, List.map_nil, hs, hx]
  rw [hr]
  exact hK _ _ (h A' c' w' h2 h3)
end
end Go.Proofs.Ytdfklbjkcednhaa
