/- How the arguments of chapter 16's statements are opened. -/
import Derived.Test.YtciijdajdmcllaaW6
namespace Go.Proofs.Ytciijdajdmcllaa
open Go.ChangeShapes Go.WideShapes Go.ChangeAt Go.RowKit Go.Deep

def dec_upOk (a : Up) : Prop := match a with | ⟨x0, x1, x2⟩ => (Lit.int .i64 x0).wf = true ∧ (Lit.int .i64 x1).wf = true ∧ (Lit.int .u64 x2).wf = true
theorem dec_up {H : Type} {enc0 : TypeId × Value → H} {w : World} (cs : List Value) (x : DataW H × List MemPlace) (n : Nat) (_hl : cs.length = 3)
    (h : DataW.trod enc0 Try.prog w 0 (fun _ => true) true n 33 cs = some x) : ∃ a : Up, cs = eP a ∧ dec_upOk a := by
  obtain ⟨_, v0, y0, m0, e0, t0⟩ := dec_field Try.underlying33 (by kernel_rfl) (by kernel_rfl) h 0 _ rfl
  obtain ⟨_, v1, y1, m1, e1, t1⟩ := dec_field Try.underlying33 (by kernel_rfl) (by kernel_rfl) h 1 _ rfl
  obtain ⟨_, v2, y2, m2, e2, t2⟩ := dec_field Try.underlying33 (by kernel_rfl) (by kernel_rfl) h 2 _ rfl
  obtain ⟨a0, ha0, _, hw0⟩ := DataW.trod_int Try.underlying3 t0
  obtain ⟨a1, ha1, _, hw1⟩ := DataW.trod_int Try.underlying3 t1
  obtain ⟨a2, ha2, _, hw2⟩ := DataW.trod_int Try.underlying31 t2
  injection ha0 with ha0
  injection ha1 with ha1
  injection ha2 with ha2
  subst ha0 ha1 ha2
  refine ⟨⟨a0, a1, a2⟩, ?_, ⟨hw0, hw1, hw2⟩⟩
  match cs, _hl with
  | [q0, q1, q2], _ =>
    simp at e0 e1 e2
    subst e0 e1 e2
    rfl

def dec_actOk (a : ActS) : Prop := (Lit.int .i64 a.kind).wf = true ∧ (Lit.int .i64 a.env).wf = true ∧ dec_upOk a.u
theorem dec_act {H : Type} {enc0 : TypeId × Value → H} {w : World} (cs : List Value) (x : DataW H × List MemPlace) (n : Nat) (hl : cs.length = 5)
    (h : DataW.trod enc0 Try.prog w 0 (fun _ => true) true n 35 cs = some x) : ∃ a : ActS, cs = eA a ∧ dec_actOk a := by
  obtain ⟨ys, n', hn', hy, hlen, hyl, hf⟩ := DataW.trod_struct Try.underlying35 h
  match cs, hl with
  | [q0, q1, q2, q3, q4], _ =>
    have f0 : DataW.trod enc0 Try.prog w 0 (fun _ => true) true n' 3 ((([q0, q1, q2, q3, q4] : List Value).drop 0).take (Try.prog.cellsOf 3)) = ys[0]? := hf 0 _ rfl
    have f1 : DataW.trod enc0 Try.prog w 0 (fun _ => true) true n' 3 ((([q0, q1, q2, q3, q4] : List Value).drop 1).take (Try.prog.cellsOf 3)) = ys[1]? := hf 1 _ rfl
    have f2 : DataW.trod enc0 Try.prog w 0 (fun _ => true) true n' 33 ((([q0, q1, q2, q3, q4] : List Value).drop 2).take (Try.prog.cellsOf 33)) = ys[2]? := hf 2 _ rfl
    have hy3 : ys.length = 3 := hyl
    rw [List.getElem?_eq_getElem (by omega)] at f0 f1 f2
    rw [show Try.prog.cellsOf 3 = 1 by kernel_rfl] at f0 f1
    rw [show Try.prog.cellsOf 33 = 3 by kernel_rfl] at f2
    simp only [List.drop_zero, List.take_succ_cons, List.take_zero, List.drop_succ_cons] at f0 f1 f2
    obtain ⟨a0, h0, _, w0⟩ := DataW.trod_int Try.underlying3 f0
    obtain ⟨a1, h1, _, w1⟩ := DataW.trod_int Try.underlying3 f1
    obtain ⟨u, hu, wu⟩ := dec_up _ _ _ rfl f2
    simp at h0 h1
    subst h0 h1
    refine ⟨⟨a0, a1, u⟩, ?_, w0, w1, wu⟩
    unfold eP at hu
    unfold eA
    rw [hu]
end Go.Proofs.Ytciijdajdmcllaa
