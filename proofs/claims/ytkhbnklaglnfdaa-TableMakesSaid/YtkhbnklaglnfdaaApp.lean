/- Rows of the call's own, by the list that they hold; append of any slice to one, at a plain operation and at a step of a region that draws its order; make. -/
import Derived.Test.YtkhbnklaglnfdaaMem
import Derived.Maps.AppendAt
import Derived.RegionTactic
namespace Go.Proofs.Ytkhbnklaglnfdaa
open Go.RowKit

/-- what the type table says of a slice's element -/
def Elem (P : Program) (t e : TypeId) (sz bytes : Nat) : Prop :=
  P.underlying t = some (.slice e) ∧ ∃ i z, P.info? e = some i ∧ i.zero = some z ∧ i.size = sz ∧ i.bytes = bytes ∧ z.cells.size = sz ∧ 0 < sz
theorem elem_mk {P : Program} {t e : TypeId} {sz bytes : Nat} {z : Value} (ht : P.underlying t = some (.slice e)) (h : (P.info? e).map (fun i => (i.zero, i.size, i.bytes)) = some (some z, sz, bytes)) (hz : z.cells.size = sz) (h0 : 0 < sz) : Elem P t e sz bytes := by
  obtain ⟨i, hi, h1, h2, h3⟩ := info_parts h
  exact ⟨ht, i, z, hi, h1, h2, h3, hz, h0⟩

structure EncOk {α : Type} (enc : α → List Value) (sz : Nat) : Prop where
  len : ∀ x, (enc x).length = sz
  one : ∀ x, ∀ u ∈ enc x, u.oneCell' = true
theorem eI_ok : EncOk eI 1 := ⟨eI_len, fun x u hu => by simp [eI] at hu; subst hu; rfl⟩
theorem eU_ok : EncOk eU 1 := ⟨eU_len, fun x u hu => by simp [eU] at hu; subst hu; rfl⟩

def blk (A : Option Addr) : Option Nat := A.map (·.block)
theorem own_blk (A : Option Addr) (n c : Nat) : (Value.slice A n c).ownBlock = blk A := by cases A <;> rfl

section
variable {α : Type} {enc : α → List Value} {sz : Nat}

/-- The slice at A, of capacity c, is a row of the call's own, from block base on, and holds the list xs. -/
def Own (enc : α → List Value) (sz : Nat) (w : World) (base : Nat) (e : TypeId) (A : Option Addr) (c : Nat) (xs : List α) : Prop :=
  w.ownsRow base e sz (.slice A xs.length c) xs.length (xs.flatMap enc)

variable {w w' : World} {base : Nat} {e : TypeId} {A : Option Addr} {c : Nat} {xs : List α}
theorem Own.nil (w : World) (base : Nat) (e : TypeId) : Own enc sz w base e none 0 [] := ⟨by simp, .inl ⟨rfl, rfl⟩⟩
theorem Own.sl (h : Own enc sz w base e A c xs) (hc : EncOk enc sz) : Sl enc sz w A xs := by
  obtain ⟨A', c', hv, hs⟩ := own_sl hc.len h
  injection hv with h1 _ _
  rw [h1]; exact hs
theorem Own.alloc (h : Own enc sz w base e A c xs) (o : Obj) : Own enc sz (w.alloc o) base e A c xs := World.ownsRow.alloc h o
theorem Own.drew (h : Own enc sz w base e A c xs) : Own enc sz w.drew base e A c xs := h
theorem Own.drewN (h : Own enc sz w base e A c xs) (n : Nat) : Own enc sz (w.drewN n) base e A c xs := h
theorem Own.lt (h : Own enc sz w base e A c xs) : ∀ k, blk A = some k → base ≤ k ∧ k < w.heap.size := fun k hk => World.ownsRow.lt h k (by rw [own_blk]; exact hk)
theorem Own.kept {row : Option Nat} (h : Own enc sz w base e A c xs) (hg : w.grownBy w' row) (hne : blk A = none ∨ blk A ≠ row) : Own enc sz w' base e A c xs :=
  World.ownsRow.kept h hg (by rw [own_blk]; exact hne)
/-- over a call that keeps what was there -/
theorem Own.keep (h : Own enc sz w base e A c xs) (hb : Below w.heap.size w w') : Own enc sz w' base e A c xs := by
  refine World.ownsRow.kept (row := none) h ⟨hb.os, hb.tape, hb.output, hb.size, fun i hi _ => hb.block i hi⟩ ?_
  rw [own_blk]
  cases h1 : blk A with
  | none => exact .inl rfl
  | some k => exact .inr (by simp)
theorem Own.cap (h : Own enc sz w base e A c xs) : xs.length ≤ c := by
  rcases h.2 with ⟨h1, h2⟩ | ⟨g, cap, cur, h1, _, _, h3, _⟩
  · omega
  · injection h1 with _ _ h1
    omega
theorem Own.shape (h : Own enc sz w base e A c xs) : (A = none ∧ xs = [] ∧ c = 0) ∨ ∃ g, A = some ⟨g, 0, none⟩ := by
  rcases h.2 with ⟨h1, h2⟩ | ⟨g, cap, cur, h1, _⟩
  · injection h1 with a1 a2 a3
    exact .inl ⟨a1, List.eq_nil_of_length_eq_zero h2, a3⟩
  · injection h1 with a1
    exact .inr ⟨g, a1⟩
theorem Own.from_ {base' : Nat} (h : Own enc sz w base e A c xs) (hb : base' ≤ base) : Own enc sz w base' e A c xs := by
  refine ⟨h.1, ?_⟩
  rcases h.2 with h1 | ⟨g, cap, cur, h1, h2, h3⟩
  · exact .inl h1
  · exact .inr ⟨g, cap, cur, h1, Nat.le_trans hb h2, h3⟩
/-- a row lies in another block than a cell that was there first -/
theorem Own.ne {p : Addr} {B : Nat} (h : Own enc sz w base e A c xs) (hp : p.block < B) (hB : B ≤ base) : blk A = none ∨ blk A ≠ some p.block := by
  cases h1 : blk A with
  | none => exact .inl rfl
  | some k => right; intro he; injection he with he; have := (h.lt k h1).1; omega

/-- a new block reads as one element -/
theorem Sl.new (hc : EncOk enc sz) (w : World) (y : α) (cs : Array Value) (hcs : cs.toList = enc y) (t : TypeId) : Sl enc sz (w.alloc (.cells cs t)) (some ⟨w.heap.size, 0, none⟩) [y] := fun _ => by
  refine ⟨w.heap.size, 0, rfl, fun i x j u hx hu => ?_⟩
  have hi : i = 0 := by
    have := (List.getElem?_eq_some_iff.1 hx).1
    simp at this
    exact this
  subst hi
  simp at hx
  subst hx
  have h1 := cell_of_row (w.alloc (.cells cs t)) w.heap.size j cs t (0, 0) (heap_alloc_new w _)
  rw [Nat.zero_mul, Nat.zero_add, Nat.zero_add, h1, ← Array.getElem?_toList, hcs, hu]

theorem one_flat (hc : EncOk enc sz) (ys : List α) : ∀ u ∈ ys.flatMap enc, u.oneCell' = true := fun u hu => by
  obtain ⟨y, _, hy⟩ := List.mem_flatMap.1 hu
  exact hc.one y u hy

variable {P : Program}

theorem run_append_sl {t ty : TypeId} {bytes : Nat} (w : World) (hE : Elem P t e sz bytes) (hc : EncOk enc sz) (hown : Own enc sz w base e A c xs) {B : Option Addr} {m d : Nat} {ys : List α} (hm : ys.length = m) (hsl : Sl enc sz w B ys)
    (h63 : xs.length + m ≤ maxLen) (hbytes : (xs.length + m) * bytes ≤ 140737488355328) (hbase : base ≤ w.heap.size) :
    ∃ A' c' w', (Builtin.append_ #[t, t] ty #[.slice A xs.length c, .slice B m d]).run P w = .ok (.slice A' (xs.length + m) c') w' ∧ Own enc sz w' base e A' c' (xs ++ ys) ∧ w.grownBy w' (blk A) ∧
      (blk A' = blk A ∨ blk A' = some w.heap.size) := by
  obtain ⟨ht, i, z, hi, hz, hs, hby, hzs, h0⟩ := hE
  subst hm
  have fin : ∀ v' w', (Builtin.append_ #[t, t] ty #[.slice A xs.length c, .slice B ys.length d]).run P w = .ok v' w' → w'.ownsRow base e sz v' (xs.length + ys.length) (xs.flatMap enc ++ ys.flatMap enc) → w.grownBy w' (Value.slice A xs.length c).ownBlock →
      (v'.ownBlock = (Value.slice A xs.length c).ownBlock ∨ v'.ownBlock = some w.heap.size) →
      ∃ A' c' w', (Builtin.append_ #[t, t] ty #[.slice A xs.length c, .slice B ys.length d]).run P w = .ok (.slice A' (xs.length + ys.length) c') w' ∧ Own enc sz w' base e A' c' (xs ++ ys) ∧ w.grownBy w' (blk A) ∧ (blk A' = blk A ∨ blk A' = some w.heap.size) := by
    intro v' w' hr ho hg hb
    rw [← List.flatMap_append] at ho
    have hl : (xs ++ ys).length = xs.length + ys.length := List.length_append
    rw [← hl] at ho
    obtain ⟨A', c', rfl, _⟩ := own_sl hc.len ho
    rw [own_blk] at hg hb
    rw [own_blk] at hb
    exact ⟨A', c', w', by rw [← hl]; exact hr, ho, hg, hb⟩
  cases B with
  | none =>
    have hy : ys = [] := by
      cases ys with
      | nil => rfl
      | cons y ys => obtain ⟨_, _, h, _⟩ := hsl (by simp); cases h
    subst hy
    refine fin (.slice A xs.length c) w ?_ (by simpa [Own] using hown) (World.grownBy.refl w _) (.inl rfl)
    rcases hown.2 with ⟨h1, h2⟩ | ⟨g, cap, cur, h1, _, _, h3, _⟩
    · rw [h1]
      simp [Builtin.append_, run_underlying ht, sizeOf, typeInfo, hi, Builtin.lenOf, Builtin.firstCells]
    · rw [h1]
      simp [Builtin.append_, run_underlying ht, sizeOf, typeInfo, hi, Builtin.lenOf, Builtin.firstCells, h3, storeCells]
  | some ad =>
    have hcells : ∀ j u, (ys.flatMap enc)[j]? = some u → w.cell? (ad.add j) = some u := by
      intro j u hu
      have hpos : 0 < ys.length := by
        cases ys with
        | nil => simp at hu
        | cons y ys => simp
      obtain ⟨b, off, hA, hcl⟩ := hsl hpos
      injection hA with hA
      subst hA
      have hj : j < ys.length * sz := by
        have := (List.getElem?_eq_some_iff.1 hu).1
        rw [flat_len hc.len] at this
        exact this
      have hq : j / sz < ys.length := Nat.div_lt_of_lt_mul (by rw [Nat.mul_comm]; exact hj)
      have hr : j % sz < sz := Nat.mod_lt _ h0
      have hjd : j / sz * sz + j % sz = j := by rw [Nat.mul_comm]; exact Nat.div_add_mod j sz
      have h1 := flat_at hc.len ys (j / sz) _ (j % sz) (List.getElem?_eq_getElem hq) hr
      rw [hjd, hu] at h1
      have h2 := hcl (j / sz) _ (j % sz) u (List.getElem?_eq_getElem hq) h1.symm
      rw [hjd] at h2
      rw [← h2]
      unfold Addr.add
      split
      · rename_i hz'; rw [hz', Nat.add_zero]
      · rfl
    obtain ⟨v', w', hrun, h2, h3, _, h5⟩ := run_append_own_at (P := P) w base t ty e i z sz bytes ht hi hz hs hby hzs h0 (.slice A xs.length c) xs.length (xs.flatMap enc) hown ad ys.length d (ys.flatMap enc) (flat_len hc.len ys) hcells (one_flat hc ys) h63 hbytes hbase
    exact fin v' w' hrun h2 h3 h5

theorem wp_append_sl {o : Oper} {a : Act} {K : Act → World → Prop} {Q : Exit → Act → World → Prop} {t : TypeId} {bytes : Nat} (w : World) (s x : Operand) (ho : o.op = .call { callee := .builtin .append, args := #[s, x], argTypes := #[t, t] })
    (hE : Elem P t e sz bytes) (hc : EncOk enc sz) (hown : Own enc sz w base e A c xs) {n : Nat} (hn : xs.length = n) (hs : a.eval s = .slice A n c) {B : Option Addr} {m d : Nat} {ys : List α} (hx : a.eval x = .slice B m d) (hm : ys.length = m) (hsl : Sl enc sz w B ys)
    (h63 : n + m ≤ maxLen) (hbytes : (n + m) * bytes ≤ 140737488355328) (hbase : base ≤ w.heap.size) (H : Nat) (hH : w.heap.size = H) (N : Nat) (hN : n + m = N)
    (h : ∀ A' c' w', Own enc sz w' base e A' c' (xs ++ ys) → w.grownBy w' (blk A) → (blk A' = blk A ∨ blk A' = some H) → K (a.put o.dst (.slice A' N c')) w') : o.wp P a w K Q := by
  subst hn
  subst hH
  subst hN
  obtain ⟨A', c', w', hr, h2, h3, h4⟩ := run_append_sl (P := P) (ty := o.type) w hE hc hown hm hsl h63 hbytes hbase
  unfold Oper.wp execOp
  simp only [ho, resolve, invoke, builtin, Sem.run_bind, Sem.run_pure, Result.andThen_ok, List.map_toArray, List.map_cons, List.map_nil, hs, hx]
  rw [hr]
  exact h A' c' w' h2 h3 h4

/-- at a plain region's operation -/
theorem wpList_append_sl {ops : Array Oper} {rest : List Oper} {o : Oper} {a : Act} {Q : Exit → Act → World → Prop} {t : TypeId} {bytes : Nat} (w : World) (hgd : o.guard = none) (s x : Operand) (ho : o.op = .call { callee := .builtin .append, args := #[s, x], argTypes := #[t, t] })
    (hE : Elem P t e sz bytes) (hc : EncOk enc sz) (hown : Own enc sz w base e A c xs) {n : Nat} (hn : xs.length = n) (hs : a.eval s = .slice A n c) {B : Option Addr} {m d : Nat} {ys : List α} (hx : a.eval x = .slice B m d) (hm : ys.length = m) (hsl : Sl enc sz w B ys)
    (h63 : n + m ≤ maxLen) (hbytes : (n + m) * bytes ≤ 140737488355328) (hbase : base ≤ w.heap.size) (H : Nat) (hH : w.heap.size = H) (N : Nat) (hN : n + m = N)
    (h : ∀ A' c' w', Own enc sz w' base e A' c' (xs ++ ys) → w.grownBy w' (blk A) → (blk A' = blk A ∨ blk A' = some H) → wpList P ops Q rest (a.put o.dst (.slice A' N c')) w') : wpList P ops Q (o :: rest) a w :=
  wpList_plain hgd fun _ hK => wp_append_sl w s x ho hE hc hown hn hs hx hm hsl h63 hbytes hbase H hH N hN fun A' c' w' h2 h3 h4 => hK _ _ (h A' c' w' h2 h3 h4)

/-- at a step of a region that draws its order -/
theorem step_append_sl {ops : Array Oper} {o : Oper} {a : Act} {K : Act → World → Prop} {Q : Exit → Act → World → Prop} {E : Prop} {t : TypeId} {bytes : Nat} (w : World) (hgd : o.guard = none) (s x : Operand) (ho : o.op = .call { callee := .builtin .append, args := #[s, x], argTypes := #[t, t] })
    (hE : Elem P t e sz bytes) (hc : EncOk enc sz) (hown : Own enc sz w base e A c xs) {n : Nat} (hn : xs.length = n) (hs : a.eval s = .slice A n c) {B : Option Addr} {m d : Nat} {ys : List α} (hx : a.eval x = .slice B m d) (hm : ys.length = m) (hsl : Sl enc sz w B ys)
    (h63 : n + m ≤ maxLen) (hbytes : (n + m) * bytes ≤ 140737488355328) (hbase : base ≤ w.heap.size) (H : Nat) (hH : w.heap.size = H) (N : Nat) (hN : n + m = N)
    (h : ∀ A' c' w', Own enc sz w' base e A' c' (xs ++ ys) → w.grownBy w' (blk A) → (blk A' = blk A ∨ blk A' = some H) → K (a.put o.dst (.slice A' N c')) w') :
    if Region.wanted o (yielded ops a.tmps) = true then Oper.wp P o a w K Q else E := by
  have hw : Region.wanted o (yielded ops a.tmps) = true := by simp [Region.wanted, hgd]
  rw [if_pos hw]
  exact wp_append_sl w s x ho hE hc hown hn hs hx hm hsl h63 hbytes hbase H hH N hN h

/-- a cut of a slice, from its beginning -/
theorem Sl.take (h : Sl enc sz w A xs) (k : Nat) : Sl enc sz w A (xs.take k) := fun h0 => by
  obtain ⟨b, off, hA, hc⟩ := h (by simp at h0; omega)
  refine ⟨b, off, hA, fun i x j u hx hu => hc i x j u ?_ hu⟩
  have := (List.getElem?_eq_some_iff.1 hx).1
  rw [List.getElem?_take] at hx
  split at hx
  · exact hx
  · cases hx
/-- .. and to its end, as the walk spells the address -/
theorem Sl.drop {b off k : Nat} (h : Sl enc sz w (some ⟨b, off, none⟩) xs) (hk : k < xs.length) : Sl enc sz w (some ⟨b, off + k * sz, none⟩) (xs.drop k) := fun _ => by
  obtain ⟨b', off', hA, hc⟩ := h (by omega)
  injection hA with hA
  injection hA with h1 h2
  subst h1 h2
  refine ⟨b, off + k * sz, rfl, fun i x j u hx hu => ?_⟩
  rw [List.getElem?_drop] at hx
  have := hc (k + i) x j u hx hu
  rw [Nat.add_mul] at this
  rw [show off + k * sz + (i * sz + j) = off + (k * sz + i * sz + j) by omega]
  exact this
end

/-- an empty row, just made -/
theorem Own.empty {α : Type} {enc : α → List Value} {sz : Nat} (w : World) {base : Nat} (e : TypeId) (hb : base ≤ w.heap.size) : Own enc sz (w.alloc (.cells #[] e)) base e (some ⟨w.heap.size, 0, none⟩) 0 [] :=
  ⟨by simp, .inr ⟨w.heap.size, 0, #[], rfl, hb, heap_alloc_new w _, Nat.le_refl _, by simp [maxLen], by simp, by simp⟩⟩
theorem keepA0 {W w1 : World} {o : Obj} (h : Below W.heap.size W w1) : Below W.heap.size W (w1.alloc o) := h.alloc h.size o
theorem keepG0 {W w1 w2 : World} {row : Option Nat} (h : Below W.heap.size W w1) (hg : w1.grownBy w2 row) (hr : ∀ k, row = some k → W.heap.size ≤ k) : Below W.heap.size W w2 := bgrow h hg hr
theorem grow_ne {A A' : Option Addr} {H g : Nat} (h : blk A' = blk A ∨ blk A' = some H) (hne : blk A = none ∨ blk A ≠ some g) (hg : g < H) : blk A' = none ∨ blk A' ≠ some g := by
  rcases h with h | h
  · rw [h]; exact hne
  · right; rw [h]; intro e; injection e with e; omega

theorem Sl.grown {α : Type} {enc : α → List Value} {sz : Nat} {w w' : World} {A : Option Addr} {xs : List α} {row : Option Nat} (h : Sl enc sz w A xs) (hg : w.grownBy w' row) (hne : ∀ g, row = some g → blk A ≠ some g) : Sl enc sz w' A xs := fun h0 => by
  obtain ⟨b, off, hA, hc⟩ := h h0
  refine ⟨b, off, hA, fun i x j u hx hu => ?_⟩
  have h1 := hc i x j u hx hu
  rw [World.cell?_of_block (w := w) (hg.block b (World.block_lt_of_cell? w _ h1) (fun e => hne b e.symm (by rw [hA]; rfl)))]
  exact h1
theorem Own.empty' {α : Type} {enc : α → List Value} {sz : Nat} (w : World) {base G : Nat} (e : TypeId) (hG : w.heap.size = G) (hb : base ≤ G) : Own enc sz (w.alloc (.cells #[] e)) base e (some ⟨G, 0, none⟩) 0 [] := by
  subst hG; exact Own.empty w e hb
theorem Sl.new' {α : Type} {enc : α → List Value} {sz : Nat} (hc : EncOk enc sz) (w : World) (y : α) (cs : Array Value) (hcs : cs.toList = enc y) (t : TypeId) {G : Nat} (hG : w.heap.size = G) : Sl enc sz (w.alloc (.cells cs t)) (some ⟨G, 0, none⟩) [y] := by
  subst hG; exact Sl.new hc w y cs hcs t
theorem grow_ge {A A' : Option Addr} {H B : Nat} (h : blk A' = blk A ∨ blk A' = some H) (hA : ∀ q, blk A = some q → B ≤ q) (hH : B ≤ H) : ∀ q, blk A' = some q → B ≤ q := by
  intro q hq
  rcases h with h | h
  · exact hA q (by rw [← h]; exact hq)
  · rw [h] at hq; injection hq with hq; omega
theorem ge_at {G B : Nat} (h : B ≤ G) : ∀ q, blk (some (⟨G, 0, none⟩ : Addr)) = some q → B ≤ q := by
  intro q hq
  injection hq with hq
  have : G = q := hq
  omega
theorem ne_below {row : Option Nat} {g o B : Nat} (h : ∀ q, row = some q → B ≤ q) (hg : g < B) : ∀ q, row = some q → blk (some (⟨g, o, none⟩ : Addr)) ≠ some q := by
  intro q hq e
  have := h q hq
  injection e with e
  have : g = q := e
  omega
/-! S of a drawn region: what was there is as it was, and a slice reads as a list -/
section
variable {α : Type} {enc : α → List Value} {sz : Nat} {W w1 w2 : World} {A : Option Addr} {xs : List α} {o : Obj}
theorem keepS (h : Below W.heap.size W w1 ∧ Sl enc sz w1 A xs) : Below W.heap.size W (w1.alloc o) ∧ Sl enc sz (w1.alloc o) A xs := ⟨h.1.alloc h.1.size o, h.2.alloc o⟩
theorem keepSd (h : Below W.heap.size W w1.drew ∧ Sl enc sz w1.drew A xs) : Below W.heap.size W (w1.alloc o).drew ∧ Sl enc sz (w1.alloc o).drew A xs :=
  ⟨(keepS (w1 := w1) (W := W) (o := o) ⟨⟨h.1.os, h.1.tape, h.1.output, h.1.size, h.1.block⟩, h.2⟩).1.drew, Sl.alloc (w := w1) h.2 o⟩
theorem keepSg {row : Option Nat} (h : Below W.heap.size W w1 ∧ Sl enc sz w1 A xs) (hg : w1.grownBy w2 row) (hr : ∀ k, row = some k → W.heap.size ≤ k) (hne : ∀ g, row = some g → blk A ≠ some g) : Below W.heap.size W w2 ∧ Sl enc sz w2 A xs :=
  ⟨bgrow h.1 hg hr, h.2.grown hg hne⟩
theorem Sl.of (h : Below W.heap.size W w1 ∧ Sl enc sz w1 A xs) : Sl enc sz w1 A xs := h.2
end

/-- a call that hands back a row of its own -/
def RetSl {α : Type} (enc : α → List Value) (sz : Nat) (e : TypeId) (xs : List α) (w : World) (en : Ending) (w' : World) : Prop :=
  ∃ A c, en = .returned (.slice A xs.length c) ∧ Own enc sz w' w.heap.size e A c xs ∧ Below w.heap.size w w'

end Go.Proofs.Ytkhbnklaglnfdaa
