/- What the rows' calls keep: only the rows' own blocks turn. -/
import Derived.Test.YtciijdajdmcllaaW5
namespace Go.Proofs.Ytciijdajdmcllaa
open Go.RowKit Go.Lib

/-- the blocks of F stay -/
structure Kp (F : Nat → Prop) (a w : World) : Prop where
  os : w.os = a.os
  tape : w.tape = a.tape
  output : w.output = a.output
  size : a.heap.size ≤ w.heap.size
  block : ∀ i, F i → w.heap[i]? = a.heap[i]?
/-- the blocks of F are none of the rows' -/
def Off (F : Nat → Prop) (n g : Nat) (R : List RwS) : Prop := ∀ b, F b → b < n ∧ b ≠ g ∧ ∀ r ∈ R, blk r.A ≠ some b
def Rf (F : Nat → Prop) (w : World) (g : Nat) (C : List Ct) : Prop := ∃ R, Rws w g R ∧ R.map ctOf = C ∧ Off F w.heap.size g R
section
variable {F : Nat → Prop} {a w w' : World} {g : Nat} {C : List Ct} {R : List RwS}
theorem Kp.trans (h : Kp F a w) (k : Kp F w w') : Kp F a w' :=
  ⟨k.os.trans h.os, k.tape.trans h.tape, k.output.trans h.output, Nat.le_trans h.size k.size, fun i hi => (k.block i hi).trans (h.block i hi)⟩
theorem Kp.of_below (h : Below a.heap.size a w) (hF : ∀ b, F b → b < a.heap.size) : Kp F a w := ⟨h.os, h.tape, h.output, h.size, fun i hi => h.block i (hF i hi)⟩
theorem Kp.of_low {B : Nat} (h : Below B a w) (hF : ∀ b, F b → b < B) : Kp F a w := ⟨h.os, h.tape, h.output, h.size, fun i hi => h.block i (hF i hi)⟩
theorem Kp.grown {r : Option Nat} (h : a.grownBy w r) (hF : ∀ b, F b → b < a.heap.size ∧ some b ≠ r) : Kp F a w := ⟨h.os, h.tape, h.output, h.size, fun i hi => h.block i (hF i hi).1 (hF i hi).2⟩
theorem Kp.set_ (hF : ∀ b, F b → b ≠ g) (o : Nat) (u : Value) : Kp F w (w.setCell ⟨g, o, none⟩ u) := ⟨rfl, rfl, rfl, by simp [World.setCell], fun k hk => Below.heap_setCell w ⟨g, o, none⟩ u k (hF k hk)⟩
theorem Kp.drew (h : Kp F a w) : Kp F a w.drew := ⟨h.os, h.tape, h.output, h.size, h.block⟩
theorem Kp.cell (h : Kp F a w) {p : Addr} {v : Value} (hc : a.cell? p = some v) (hp : F p.block) : w.cell? p = some v := by
  rw [World.cell?_of_block (w := a) (h.block p.block hp)]; exact hc
theorem Kp.blk (h : Kp F a w) {q : Nat} {t : TypeId} {cs : Array Value} (hc : Blk a q t cs) (hq : F q) : Blk w q t cs := (h.block q hq).trans hc
theorem Kp.mono {G : Nat → Prop} (h : Kp F a w) (hG : ∀ b, G b → F b) : Kp G a w := ⟨h.os, h.tape, h.output, h.size, fun i hi => h.block i (hG i hi)⟩
theorem Rf.keep (h : Rf F w g C) (hb : Below w.heap.size w w') : Rf F w' g C := by
  obtain ⟨R, h1, h2, h3⟩ := h
  exact ⟨R, h1.keep hb, h2, fun b hb2 => ⟨Nat.lt_of_lt_of_le (h3 b hb2).1 hb.size, (h3 b hb2).2⟩⟩
theorem Rf.drew (h : Rf F w g C) : Rf F w.drew g C := by
  obtain ⟨R, h1, h2, h3⟩ := h
  exact ⟨R, h1.drew, h2, h3⟩
theorem Rf.rs (h : Rf F w g C) : Rs w g C := by
  obtain ⟨R, h1, h2, _⟩ := h
  exact ⟨R, h1, h2⟩
theorem Rf.lt (h : Rf F w g C) : ∀ b, F b → b < w.heap.size := fun b hb => by
  obtain ⟨R, _, _, h3⟩ := h
  exact (h3 b hb).1
theorem Rf.ne (h : Rf F w g C) : ∀ b, F b → b ≠ g := fun b hb => by
  obtain ⟨R, _, _, h3⟩ := h
  exact (h3 b hb).2.1
/-- other blocks: of those that F has, and new ones -/
theorem Rf.turn {G : Nat → Prop} {B : Nat} (h : Rf F w g C) (hB : Rs w g C → True) (hb : Below w.heap.size w w') (hG : ∀ b, G b → F b ∨ (w.heap.size ≤ b ∧ b < w'.heap.size)) : Rf G w' g C := by
  obtain ⟨R, h1, h2, h3⟩ := h
  refine ⟨R, h1.keep hb, h2, fun b hb2 => ?_⟩
  rcases hG b hb2 with hf | ⟨hl, hr⟩
  · exact ⟨Nat.lt_of_lt_of_le (h3 b hf).1 hb.size, (h3 b hf).2⟩
  · refine ⟨hr, by have := h1.at_.lt; omega, fun r hrm e => ?_⟩
    obtain ⟨i, hi, rfl⟩ := List.getElem_of_mem hrm
    have := (h1.lt hi b e).2
    omega
/-- a row turned -/
theorem Off.set_ (h : Off F w.heap.size g R) {i : Nat} (hi : i < R.length) {A : Option Addr} {c : Nat} {L : List Up} {v : Int} {n : Nat} (hn : w.heap.size ≤ n) (hA : blk A = blk R[i].A ∨ blk A = none ∨ ∃ q, blk A = some q ∧ w.heap.size ≤ q) : Off F n g (R.set i ⟨A, c, L, v⟩) := by
  intro b hb
  obtain ⟨h1, h2, h3⟩ := h b hb
  refine ⟨by omega, h2, fun r hr e => ?_⟩
  rcases List.mem_or_eq_of_mem_set hr with hr | rfl
  · exact h3 r hr e
  · simp only at e
    rcases hA with e2 | e2 | ⟨q, e2, hq⟩
    · exact h3 _ (List.getElem_mem hi) (e2.symm.trans e)
    · rw [e2] at e; cases e
    · rw [e2] at e; injection e with e; omega
end
end Go.Proofs.Ytciijdajdmcllaa
