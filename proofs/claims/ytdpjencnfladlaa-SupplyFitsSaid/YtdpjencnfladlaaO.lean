/- How SupplyFits' argument is opened; every length. -/
import Derived.Test.YtdpjencnfladlaaW6
namespace Go.Proofs.Ytdpjencnfladlaa
open Go.ChangeShapes Go.WideShapes Go.ChangeAt Go.RowKit Go.Deep

def dec_rsOk (a : Rs) : Prop := match a with | ⟨x0, x1⟩ => (Lit.int .i64 x0).wf = true ∧ (Lit.int .i64 x1).wf = true
theorem dec_rs {H : Type} {enc0 : TypeId × Value → H} {w : World} (cs : List Value) (x : DataW H × List MemPlace) (n : Nat) (_hl : cs.length = 2)
    (h : DataW.trod enc0 Try.prog w 0 (fun _ => true) true n 23 cs = some x) : ∃ a : Rs, cs = eS a ∧ dec_rsOk a := by
  obtain ⟨_, v0, y0, m0, e0, t0⟩ := dec_field Try.underlying23 (by kernel_rfl) (by kernel_rfl) h 0 _ rfl
  obtain ⟨_, v1, y1, m1, e1, t1⟩ := dec_field Try.underlying23 (by kernel_rfl) (by kernel_rfl) h 1 _ rfl
  obtain ⟨a0, ha0, _, hw0⟩ := DataW.trod_int Try.underlying3 t0
  obtain ⟨a1, ha1, _, hw1⟩ := DataW.trod_int Try.underlying3 t1
  injection ha0 with ha0
  injection ha1 with ha1
  subst ha0 ha1
  refine ⟨⟨a0, a1⟩, ?_, ⟨hw0, hw1⟩⟩
  match cs, _hl with
  | [q0, q1], _ =>
    simp at e0 e1
    subst e0 e1
    rfl

theorem fits_all (A : Option Addr) (l : List Rs) (c : Nat) (w : World) (hs : Sl eS 2 w A l) (hl : l.length ≤ 9223372036854775807) :
    Calls Try.prog 7 #[.slice A l.length c] w fun e w' => e = .returned (.bool true) ∧ Below w.heap.size w w' := by
  by_cases h : 20 < l.length
  · exact fits_many A _ c w h hl
  · exact fits_few A l c w hs (by omega)
end Go.Proofs.Ytdpjencnfladlaa
