/- How the statements' arguments are opened: a slice of acts. -/
import Derived.Test.YtcalpfpbafnckaaW2
namespace Go.Proofs.Ytcalpfpbafnckaa
open Go.ChangeShapes Go.WideShapes Go.ChangeAt Go.RowKit Go.Deep

theorem dec_act {H : Type} {enc0 : TypeId × Value → H} {w : World} (cs : List Value) (x : DataW H × List MemPlace) (n : Nat) (_hl : cs.length = 2)
    (h : DataW.trod enc0 Try.prog w 0 (fun _ => true) true n 29 cs = some x) : ∃ a : ActS, cs = eA a ∧ True := by
  obtain ⟨hl, v0, y0, m0, e0, t0⟩ := dec_field Try.underlying29 (by kernel_rfl) (by kernel_rfl) h 0 _ rfl
  obtain ⟨_, v1, y1, m1, e1, t1⟩ := dec_field Try.underlying29 (by kernel_rfl) (by kernel_rfl) h 1 _ rfl
  obtain ⟨a, ha, _, _⟩ := DataW.trod_int Try.underlying3 t0
  obtain ⟨b, hb, _, _⟩ := DataW.trod_int Try.underlying3 t1
  injection ha with ha
  injection hb with hb
  subst ha hb
  refine ⟨⟨a, b⟩, ?_, trivial⟩
  match cs, _hl with
  | [p, q], _ =>
    simp at e0 e1
    subst e0 e1
    rfl
end Go.Proofs.Ytcalpfpbafnckaa
