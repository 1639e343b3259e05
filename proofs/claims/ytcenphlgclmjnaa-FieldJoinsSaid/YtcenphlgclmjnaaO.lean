/- How FieldJoins' arguments are opened; every length. -/
import Derived.Test.YtcenphlgclmjnaaW7
namespace Go.Proofs.Ytcenphlgclmjnaa
open Go.ChangeShapes Go.WideShapes Go.ChangeAt Go.RowKit Go.Deep

def dec_flOk (a : Fl) : Prop := match a with | ⟨x0, x1⟩ => (Lit.int .i64 x0).wf = true ∧ (Lit.int .i64 x1).wf = true
theorem dec_fl {H : Type} {enc0 : TypeId × Value → H} {w : World} (cs : List Value) (x : DataW H × List MemPlace) (n : Nat) (_hl : cs.length = 2)
    (h : DataW.trod enc0 Try.prog w 0 (fun _ => true) true n 23 cs = some x) : ∃ a : Fl, cs = eF a ∧ dec_flOk a := by
  obtain ⟨_, v0, y0, m0, e0, t0⟩ := dec_field Try.underlying23 (by kernel_rfl) (by kernel_rfl) h 0 _ rfl
  obtain ⟨_, v1, y1, m1, e1, t1⟩ := dec_field Try.underlying23 (by kernel_rfl) (by kernel_rfl) h 1 _ rfl
  obtain ⟨a0, ha0, _, hw0⟩ := DataW.trod_int Try.underlying3 t0
  obtain ⟨a1, ha1, _, hw1⟩ := DataW.trod_int Try.underlying3 t1
  injection ha0 with ha0
  injection ha1 with ha1
  subst ha0 ha1
  refine ⟨⟨a0, a1⟩, ?_, ⟨hw0, hw1⟩⟩
  match cs, _hl with
  | [q0, q1], _ =>
    simp at e0 e1
    subst e0 e1
    rfl

theorem joins_all (A B : Option Addr) (l : List Fl) (n : List Int) (c d : Nat) (w : World) (hs : Sl eF 2 w A l) (hn : Sl eU 1 w B n) (hl : l.length ≤ 9223372036854775807) (hnl : n.length ≤ 9223372036854775807) (hn0 : ∀ x ∈ n, (Lit.int .u64 x).wf = true) :
    Calls Try.prog 5 #[.slice A l.length c, .slice B n.length d] w fun e w' => e = .returned (.bool true) ∧ Below w.heap.size w w' := by
  by_cases h : 40 < l.length ∨ 40 < n.length
  · exact joins_many A B _ _ c d w h hl hnl
  · exact joins_any A B l n c d w hs hn (by omega) (by omega) (fun x hx => (wf_u64 (hn0 x hx)).1)
end Go.Proofs.Ytcenphlgclmjnaa
