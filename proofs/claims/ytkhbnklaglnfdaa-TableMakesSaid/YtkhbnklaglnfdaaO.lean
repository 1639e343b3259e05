/- How the arguments of chapter 34's statements are opened. -/
import Derived.Test.YtkhbnklaglnfdaaTW1
namespace Go.Proofs.Ytkhbnklaglnfdaa
open Go.ChangeShapes Go.WideShapes Go.ChangeAt Go.RowKit Go.Deep

def dec_tkOk (a : Tk) : Prop := match a with | ⟨x0, x1, x2⟩ => (Lit.int .i64 x0).wf = true ∧ (Lit.int .i64 x1).wf = true ∧ (Lit.int .i64 x2).wf = true
theorem dec_tk {H : Type} {enc0 : TypeId × Value → H} {w : World} (cs : List Value) (x : DataW H × List MemPlace) (n : Nat) (_hl : cs.length = 3)
    (h : DataW.trod enc0 Try.prog w 0 (fun _ => true) true n 29 cs = some x) : ∃ a : Tk, cs = eT a ∧ dec_tkOk a := by
  obtain ⟨_, v0, y0, m0, e0, t0⟩ := dec_field Try.underlying29 (by kernel_rfl) (by kernel_rfl) h 0 _ rfl
  obtain ⟨_, v1, y1, m1, e1, t1⟩ := dec_field Try.underlying29 (by kernel_rfl) (by kernel_rfl) h 1 _ rfl
  obtain ⟨_, v2, y2, m2, e2, t2⟩ := dec_field Try.underlying29 (by kernel_rfl) (by kernel_rfl) h 2 _ rfl
  obtain ⟨a0, ha0, _, hw0⟩ := DataW.trod_int Try.underlying3 t0
  obtain ⟨a1, ha1, _, hw1⟩ := DataW.trod_int Try.underlying3 t1
  obtain ⟨a2, ha2, _, hw2⟩ := DataW.trod_int Try.underlying3 t2
  injection ha0 with ha0
  injection ha1 with ha1
  injection ha2 with ha2
  subst ha0 ha1 ha2
  refine ⟨⟨a0, a1, a2⟩, ?_, ⟨hw0, hw1, hw2⟩⟩
  match cs, _hl with
  | [q0, q1, q2], _ =>
    simp at e0 e1 e2
    subst e0 e1 e2
    rfl

end Go.Proofs.Ytkhbnklaglnfdaa
