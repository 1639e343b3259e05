/- Stores of whole structs and of single cells at a step of a region that draws its order (see Phase). -/
import Derived.Test.YtdfklbjkcednhaaPhase2
import Derived.Test.YtdfklbjkcednhaaWide
import Derived.Test.YtdfklbjkcednhaaKp
namespace Go.Proofs.Ytdfklbjkcednhaa
open Go.RowKit Go.Lib

section
variable {P : Program} {ρ : Operand → Value} {o : Oper}
theorem run_store_whole (w : World) (t : TypeId) (x y : Operand) (ho : o.op = .store t x y) (g i : Nat) (vs : Array Value) (hx : ρ x = .pointer (some ⟨g, i, none⟩)) (hy : ρ y = .agg vs) (hc : w.there g i vs.size) (hi : (P.info? t).map (·.size) = some vs.size) (h1 : vs.all (·.oneCell') = true) :
    (execOp ρ o).run P w = .ok .skip (w.setCells g i vs.toList) := by
  unfold execOp
  simp only [ho, hx, hy, Instr.storeAt, Instr.sureAddr, Sem.run_bind, Sem.run_pure, Result.andThen_ok, run_storeVar_mid w g i t vs hc hi h1]
theorem run_store_one (w : World) (t : TypeId) (x y : Operand) (ho : o.op = .store t x y) (g i : Nat) (v : Value) (hx : ρ x = .pointer (some ⟨g, i, none⟩)) (hy : ρ y = v) (hc : w.there g i 1) (hi : (P.info? t).map (·.size) = some 1) (h1 : v.oneCell' = true) :
    (execOp ρ o).run P w = .ok .skip (w.setCell ⟨g, i, none⟩ v) := by
  unfold execOp
  simp only [ho, hx, hy, Instr.storeAt, Instr.sureAddr, Sem.run_bind, Sem.run_pure, Result.andThen_ok, run_storeVar_cell w g i t v hi h1 hc]
/-- a whole block is stored, at a step of a region in phases -/
theorem gup_store_blk {T : List Nat} {C : Nat → World → Prop} {R : Nat → World → World → Prop} {i k : Nat} {w : World} (hi : T.idxOf? i = some k) (t : TypeId) (x y : Operand) (ho : o.op = .store t x y) (g : Nat) {bt : TypeId} (cs vs : Array Value) (hx : ρ x = .pointer (some ⟨g, 0, none⟩)) (hy : ρ y = .agg vs) (hb : Blk w g bt cs) (hs : cs.size = vs.size) (hz : (P.info? t).map (·.size) = some vs.size) (h1 : vs.all (·.oneCell') = true)
    (h : ∀ w', Blk w' g bt vs → w.grownBy w' (some g) → w'.heap.size = w.heap.size → C (k + 1) w' ∧ R i w w') : GUp P (ZC T C R i) (fun u _ => u = undef) w ((execOp ρ o).run P w) := by
  rw [run_store_whole w t x y ho g 0 vs hx hy (by rw [← hs]; exact hb.there (Nat.le_refl _)) hz h1]
  have := h (w.setCells g 0 vs.toList) (by have := hb.fill vs.toList (by simpa using hs); simpa using this) (grown_setCells g vs.toList 0 w w (only_refl w g)) (size_setCells _ _ _ _)
  exact ⟨zc_turn hi this.1 this.2, rfl⟩
end
theorem Own.kp {α : Type} {enc : α → List Value} {sz : Nat} {w w' : World} {base c : Nat} {e : TypeId} {A : Option Addr} {xs : List α} {F : Nat → Prop} (h : Own enc sz w base e A c xs) (hk : Kp F w w') (hF : ∀ q, blk A = some q → F q) : Own enc sz w' base e A c xs := by
  refine ⟨h.1, ?_⟩
  rcases h.2 with h1 | ⟨g, cap, cur, h1, h2, h3, h4⟩
  · exact .inl h1
  · exact .inr ⟨g, cap, cur, h1, h2, (hk.block g (hF g (by injection h1 with h1; rw [h1]; rfl))).trans h3, h4⟩
theorem Sl.kp {α : Type} {enc : α → List Value} {sz : Nat} {w w' : World} {A : Option Addr} {xs : List α} {F : Nat → Prop} (h : Sl enc sz w A xs) (hk : Kp F w w') (hF : ∀ q, blk A = some q → F q) : Sl enc sz w' A xs := fun h0 => by
  obtain ⟨b, off, hA, hc⟩ := h h0
  exact ⟨b, off, hA, fun i x j u hx hu => hk.cell (hc i x j u hx hu) (hF b (by rw [hA]; rfl))⟩
/-- some cells in a row are stored, at a step of a region in phases -/
theorem gup_store_at {P : Program} {T : List Nat} {C : Nat → World → Prop} {R : Nat → World → World → Prop} {i k : Nat} {ρ : Operand → Value} {o : Oper} {w : World} (hi : T.idxOf? i = some k) (t : TypeId) (x y : Operand) (ho : o.op = .store t x y) (g off : Nat) (vs : Array Value) (hx : ρ x = .pointer (some ⟨g, off, none⟩)) (hy : ρ y = .agg vs) (hc : w.there g off vs.size) (hz : (P.info? t).map (·.size) = some vs.size) (h1 : vs.all (·.oneCell') = true)
    (h : C (k + 1) (w.setCells g off vs.toList) ∧ R i w (w.setCells g off vs.toList)) : GUp P (ZC T C R i) (fun u _ => u = undef) w ((execOp ρ o).run P w) := by
  rw [run_store_whole w t x y ho g off vs hx hy hc hz h1]
  exact ⟨zc_turn hi h.1 h.2, rfl⟩
/-- an append to a row of the call's own, at a step of a region in phases -/
theorem gup_append_row {P : Program} {T : List Nat} {C : Nat → World → Prop} {R : Nat → World → World → Prop} {i k : Nat} {α : Type} {enc : α → List Value} {sz base c : Nat} {e t : TypeId} {bytes : Nat} {A : Option Addr} {xs : List α} {o : Oper} {a : Act} {U : Value → World → Prop} (w : World) (s x : Operand) (ho : o.op = .call { callee := .builtin .append, args := #[s, x], argTypes := #[t, t] })
    (hi : T.idxOf? i = some k) (hE : Elem P t e sz bytes) (hc : EncOk enc sz) (hown : Own enc sz w base e A c xs) {n : Nat} (hn : xs.length = n) (hs : a.eval s = .slice A n c) {B : Option Addr} {m d : Nat} {ys : List α} (hx : a.eval x = .slice B m d) (hm : ys.length = m) (hsl : Sl enc sz w B ys)
    (h63 : n + m ≤ maxLen) (hbytes : (n + m) * bytes ≤ 140737488355328) (hbase : base ≤ w.heap.size)
    (h : ∀ A' c' w', Own enc sz w' base e A' c' (xs ++ ys) → w.grownBy w' (blk A) → (blk A' = blk A ∨ blk A' = some w.heap.size) → C (k + 1) w' ∧ R i w w' ∧ U (.slice A' (n + m) c') w') : GUp P (ZC T C R i) U w ((execOp a.eval o).run P w) := by
  subst hn
  obtain ⟨A', c', w', hr, h2, h3, h4⟩ := run_append_sl (P := P) (ty := o.type) w hE hc hown hm (d := d) hsl h63 hbytes hbase
  unfold execOp
  simp only [ho, resolve, invoke, builtin, Sem.run_bind, Sem.run_pure, Result.andThen_ok, List.map_toArray, List.map_cons, List.map_nil, hs, hx]
  rw [hr]
  obtain ⟨r1, r2, r3⟩ := h A' c' w' h2 h3 h4
  exact ⟨zc_turn hi r1 r2, r3⟩
/-- two blocks are stored whole, one behind the other; what else was there stays -/
structure TwoSt (W : World) (g2 g3 : Nat) (t2 t3 : TypeId) (z2 v2 z3 v3 : Array Value) (k : Nat) (w : World) : Prop where
  kp : Kp (fun b => b < W.heap.size ∧ b ≠ g2 ∧ b ≠ g3) W w
  b2 : Blk w g2 t2 (if k = 0 then z2 else v2)
  b3 : Blk w g3 t3 (if k ≤ 1 then z3 else v3)
section
variable {W w w' : World} {g2 g3 : Nat} {t2 t3 : TypeId} {z2 v2 z3 v3 : Array Value} {k : Nat}
theorem TwoSt.begin_ (h2 : Blk W g2 t2 z2) (h3 : Blk W g3 t3 z3) : TwoSt W g2 g3 t2 t3 z2 v2 z3 v3 0 W.drew := ⟨(Kp.refl _ _).drew, h2, h3⟩
theorem TwoSt.keeps (h : TwoSt W g2 g3 t2 t3 z2 v2 z3 v3 k w) (hz : Keeps w w') : TwoSt W g2 g3 t2 t3 z2 v2 z3 v3 k w' :=
  ⟨h.kp.trans (Kp.of_below hz (fun b hb => Nat.lt_of_lt_of_le hb.1 h.kp.size)), h.b2.keep hz, h.b3.keep hz⟩
theorem TwoSt.one (h : TwoSt W g2 g3 t2 t3 z2 v2 z3 v3 0 w) (hne : g2 ≠ g3) (hb : Blk w' g2 t2 v2) (hg : w.grownBy w' (some g2)) : TwoSt W g2 g3 t2 t3 z2 v2 z3 v3 1 w' :=
  ⟨h.kp.trans (Kp.grown hg (fun b hb => ⟨Nat.lt_of_lt_of_le hb.1 h.kp.size, fun e => by injection e with e; exact hb.2.1 e⟩)), hb, h.b3.grown hg (fun e => by injection e with e; exact hne e.symm)⟩
theorem TwoSt.two (h : TwoSt W g2 g3 t2 t3 z2 v2 z3 v3 1 w) (hne : g2 ≠ g3) (hb : Blk w' g3 t3 v3) (hg : w.grownBy w' (some g3)) : TwoSt W g2 g3 t2 t3 z2 v2 z3 v3 2 w' :=
  ⟨h.kp.trans (Kp.grown hg (fun b hb => ⟨Nat.lt_of_lt_of_le hb.1 h.kp.size, fun e => by injection e with e; exact hb.2.2 e⟩)), h.b2.grown hg (fun e => by injection e with e; exact hne e), hb⟩
end
end Go.Proofs.Ytdfklbjkcednhaa
