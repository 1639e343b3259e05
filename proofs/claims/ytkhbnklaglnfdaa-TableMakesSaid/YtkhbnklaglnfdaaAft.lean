/- A region that draws its order, beside calls that make memory: walked once, in the order of the text, over the class of worlds that keep what was there. -/
import Derived.Test.YtkhbnklaglnfdaaBase
namespace Go.Proofs.Ytkhbnklaglnfdaa
open Go.RowKit

/-- a world that keeps what W had -/
structure Aft (W : World) where
  w : World
  ok : Below W.heap.size W w
instance instAftSome (W : World) : Nonempty (Aft W) := ⟨⟨W, Below.refl _ _⟩⟩
theorem Aft.cell {W : World} {p : Addr} {v : Value} (c : W.cell? p = some v) : ∀ n : Aft W, n.w.cell? p = some v := fun n => kcell n.ok c
theorem Aft.below {W w : World} (h : ∃ n : Aft W, w = n.w) : Below W.heap.size W w := by
  obtain ⟨n, rfl⟩ := h
  exact n.ok
theorem aft_call {P : Program} {f : FuncId} {args : Array Value} {W : World} {n : Aft W} {v : Value} (h : Calls P f args n.w fun e w' => e = .returned v ∧ Below n.w.heap.size n.w w') :
    Calls P f args n.w fun e w'' => e = .returned v ∧ ∃ m : Aft W, w'' = m.w :=
  h.mono fun _ w' ⟨he, hb⟩ => ⟨he, ⟨w', bstep n.ok (Nat.le_refl _) hb⟩, rfl⟩
theorem aft_same {P : Program} {f : FuncId} {args : Array Value} {W : World} {n : Aft W} {v : Value} (h : Calls P f args n.w fun e w' => e = .returned v ∧ n.w = w') :
    Calls P f args n.w fun e w'' => e = .returned v ∧ ∃ m : Aft W, w'' = m.w :=
  h.mono fun _ _ ⟨he, hb⟩ => ⟨he, n, hb.symm⟩
theorem aft_drew {P : Program} {f : FuncId} {args : Array Value} {W : World} {n : Aft W} {v : Value} (h : Calls P f args n.w fun e w' => e = .returned v ∧ ∃ m, w' = n.w.drewN m) :
    Calls P f args n.w fun e w'' => e = .returned v ∧ ∃ m : Aft W, w'' = m.w :=
  h.mono fun _ w' ⟨he, m, hb⟩ => ⟨he, ⟨w', by rw [hb]; exact bdrewN n.ok m⟩, rfl⟩
theorem wp_region_aft {P : Program} {id : Nat} {Q : Exit → Act → World → Prop} {a : Act} {W : World} {l : List Oper} (hm : P.follows .mixedOrders = true) (hB : Region.lexB .any l.toArray = true)
    (h : wpQuiet P l.toArray (fun w' => ∃ n : Aft W, w' = n.w) (fun a' => ∀ w', (∃ n : Aft W, w' = n.w) → Q .normal a' w') l a) : (Code.region id l.toArray true).wp P Q a W :=
  wp_region_quiet (C := fun w' => ∃ n : Aft W, w' = n.w) hm hB ⟨⟨_, (Below.refl _ _).drew⟩, rfl⟩ (by simpa using h)
end Go.Proofs.Ytkhbnklaglnfdaa
