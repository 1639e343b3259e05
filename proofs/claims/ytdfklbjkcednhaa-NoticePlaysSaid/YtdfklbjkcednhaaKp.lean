/- What a call keeps: the blocks of a set; a world of which only so much is kept in mind. -/
import Derived.Test.YtdfklbjkcednhaaBlk
namespace Go.Proofs.Ytdfklbjkcednhaa
open Go.RowKit

/-- the blocks of F stay -/
structure Kp (F : Nat → Prop) (a w : World) : Prop where
  os : w.os = a.os
  tape : w.tape = a.tape
  output : w.output = a.output
  size : a.heap.size ≤ w.heap.size
  block : ∀ i, F i → w.heap[i]? = a.heap[i]?
section
variable {F : Nat → Prop} {a w w' : World} {g : Nat}
theorem Kp.refl (F : Nat → Prop) (w : World) : Kp F w w := ⟨rfl, rfl, rfl, Nat.le_refl _, fun _ _ => rfl⟩
theorem Kp.trans (h : Kp F a w) (k : Kp F w w') : Kp F a w' :=
  ⟨k.os.trans h.os, k.tape.trans h.tape, k.output.trans h.output, Nat.le_trans h.size k.size, fun i hi => (k.block i hi).trans (h.block i hi)⟩
theorem Kp.of_below (h : Below a.heap.size a w) (hF : ∀ b, F b → b < a.heap.size) : Kp F a w := ⟨h.os, h.tape, h.output, h.size, fun i hi => h.block i (hF i hi)⟩
theorem Kp.of_low {B : Nat} (h : Below B a w) (hF : ∀ b, F b → b < B) : Kp F a w := ⟨h.os, h.tape, h.output, h.size, fun i hi => h.block i (hF i hi)⟩
theorem Kp.grown {r : Option Nat} (h : a.grownBy w r) (hF : ∀ b, F b → b < a.heap.size ∧ some b ≠ r) : Kp F a w := ⟨h.os, h.tape, h.output, h.size, fun i hi => h.block i (hF i hi).1 (hF i hi).2⟩
theorem Kp.drew (h : Kp F a w) : Kp F a w.drew := ⟨h.os, h.tape, h.output, h.size, h.block⟩
theorem Kp.drewN (h : Kp F a w) (n : Nat) : Kp F a (w.drewN n) := ⟨h.os, h.tape, h.output, h.size, h.block⟩
theorem Kp.cell (h : Kp F a w) {p : Addr} {v : Value} (hc : a.cell? p = some v) (hp : F p.block) : w.cell? p = some v := by
  rw [World.cell?_of_block (w := a) (h.block p.block hp)]; exact hc
theorem Kp.blk (h : Kp F a w) {q : Nat} {t : TypeId} {cs : Array Value} (hc : Blk a q t cs) (hq : F q) : Blk w q t cs := (h.block q hq).trans hc
theorem Kp.mono {G : Nat → Prop} (h : Kp F a w) (hG : ∀ b, G b → F b) : Kp G a w := ⟨h.os, h.tape, h.output, h.size, fun i hi => h.block i (hG i hi)⟩
theorem Kp.low {B : Nat} (h : Kp F a w) (hF : ∀ b, b < B → F b) : Below B a w := ⟨h.os, h.tape, h.output, h.size, fun i hi => h.block i (hF i hi)⟩
end
theorem at_world {F : World → Prop} {W : World} (Φ : World → Prop) (h : Φ W) (k : ∀ W', Φ W' → F W') : F W := k W h
end Go.Proofs.Ytdfklbjkcednhaa
