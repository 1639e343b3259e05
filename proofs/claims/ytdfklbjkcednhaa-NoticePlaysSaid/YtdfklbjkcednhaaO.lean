/- How the arguments of chapter 17's statements are opened. -/
import Derived.Test.YtdfklbjkcednhaaW13
namespace Go.Proofs.Ytdfklbjkcednhaa
open Go.ChangeShapes Go.WideShapes Go.ChangeAt Go.RowKit Go.Deep

def dec_actOk (a : ActS) : Prop := match a with | ⟨x0, x1, x2, x3, x4⟩ => (Lit.int .i64 x0).wf = true ∧ (Lit.int .i64 x1).wf = true ∧ (Lit.int .i64 x2).wf = true ∧ (Lit.int .i64 x3).wf = true ∧ (Lit.int .i64 x4).wf = true
theorem dec_act {H : Type} {enc0 : TypeId × Value → H} {w : World} (cs : List Value) (x : DataW H × List MemPlace) (n : Nat) (_hl : cs.length = 5)
    (h : DataW.trod enc0 Try.prog w 0 (fun _ => true) true n 35 cs = some x) : ∃ a : ActS, cs = eA a ∧ dec_actOk a := by
  obtain ⟨_, v0, y0, m0, e0, t0⟩ := dec_field Try.underlying35 (by kernel_rfl) (by kernel_rfl) h 0 _ rfl
  obtain ⟨_, v1, y1, m1, e1, t1⟩ := dec_field Try.underlying35 (by kernel_rfl) (by kernel_rfl) h 1 _ rfl
  obtain ⟨_, v2, y2, m2, e2, t2⟩ := dec_field Try.underlying35 (by kernel_rfl) (by kernel_rfl) h 2 _ rfl
  obtain ⟨_, v3, y3, m3, e3, t3⟩ := dec_field Try.underlying35 (by kernel_rfl) (by kernel_rfl) h 3 _ rfl
  obtain ⟨_, v4, y4, m4, e4, t4⟩ := dec_field Try.underlying35 (by kernel_rfl) (by kernel_rfl) h 4 _ rfl
  obtain ⟨a0, ha0, _, hw0⟩ := DataW.trod_int Try.underlying3 t0
  obtain ⟨a1, ha1, _, hw1⟩ := DataW.trod_int Try.underlying3 t1
  obtain ⟨a2, ha2, _, hw2⟩ := DataW.trod_int Try.underlying3 t2
  obtain ⟨a3, ha3, _, hw3⟩ := DataW.trod_int Try.underlying3 t3
  obtain ⟨a4, ha4, _, hw4⟩ := DataW.trod_int Try.underlying3 t4
  injection ha0 with ha0
  injection ha1 with ha1
  injection ha2 with ha2
  injection ha3 with ha3
  injection ha4 with ha4
  subst ha0 ha1 ha2 ha3 ha4
  refine ⟨⟨a0, a1, a2, a3, a4⟩, ?_, ⟨hw0, hw1, hw2, hw3, hw4⟩⟩
  match cs, _hl with
  | [q0, q1, q2, q3, q4], _ =>
    simp at e0 e1 e2 e3 e4
    subst e0 e1 e2 e3 e4
    rfl

end Go.Proofs.Ytdfklbjkcednhaa
