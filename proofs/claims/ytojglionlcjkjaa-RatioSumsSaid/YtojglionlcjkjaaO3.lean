/- How RatioSums' argument is opened; every length. -/
import Derived.Test.YtojglionlcjkjaaW11
namespace Go.Proofs.Ytojglionlcjkjaa
open Go.ChangeShapes Go.WideShapes Go.ChangeAt Go.RowKit Go.Deep

structure RtI where
  num : Int
  den : Int
def eRI (r : RtI) : List Value := [.int .u64 r.num, .int .u64 r.den]
def dec_rtOk (a : RtI) : Prop := match a with | ⟨x0, x1⟩ => (Lit.int .u64 x0).wf = true ∧ (Lit.int .u64 x1).wf = true
theorem dec_rt {H : Type} {enc0 : TypeId × Value → H} {w : World} (cs : List Value) (x : DataW H × List MemPlace) (n : Nat) (_hl : cs.length = 2)
    (h : DataW.trod enc0 Try.prog w 0 (fun _ => true) true n 24 cs = some x) : ∃ a : RtI, cs = eRI a ∧ dec_rtOk a := by
  obtain ⟨_, v0, y0, m0, e0, t0⟩ := dec_field Try.underlying24 (by kernel_rfl) (by kernel_rfl) h 0 _ rfl
  obtain ⟨_, v1, y1, m1, e1, t1⟩ := dec_field Try.underlying24 (by kernel_rfl) (by kernel_rfl) h 1 _ rfl
  obtain ⟨a0, ha0, _, hw0⟩ := DataW.trod_int Try.underlying22 t0
  obtain ⟨a1, ha1, _, hw1⟩ := DataW.trod_int Try.underlying22 t1
  injection ha0 with ha0
  injection ha1 with ha1
  subst ha0 ha1
  refine ⟨⟨a0, a1⟩, ?_, ⟨hw0, hw1⟩⟩
  match cs, _hl with
  | [q0, q1], _ =>
    simp at e0 e1
    subst e0 e1
    rfl

theorem eR_of {r : RtI} (h : dec_rtOk r) : ∃ q : Rt, eRI r = eR q ∧ q.num < 18446744073709551616 ∧ q.den < 18446744073709551616 := by
  obtain ⟨a, b⟩ := r
  obtain ⟨h1, h2⟩ := h
  have b1 := wf_u64 h1
  have b2 := wf_u64 h2
  obtain ⟨n, rfl⟩ := Int.eq_ofNat_of_zero_le b1.1
  obtain ⟨d, rfl⟩ := Int.eq_ofNat_of_zero_le b2.1
  exact ⟨⟨n, d⟩, rfl, by simp; omega, by simp; omega⟩
theorem dec_rt2 {H : Type} {enc0 : TypeId × Value → H} {w : World} (cs : List Value) (x : DataW H × List MemPlace) (n : Nat) (hl : cs.length = 2)
    (h : DataW.trod enc0 Try.prog w 0 (fun _ => true) true n 24 cs = some x) : ∃ a : Rt, cs = eR a ∧ (a.num < 18446744073709551616 ∧ a.den < 18446744073709551616) := by
  obtain ⟨a, h1, h2⟩ := dec_rt cs x n hl h
  obtain ⟨q, hq, hb⟩ := eR_of h2
  exact ⟨q, by rw [h1, hq], hb⟩
theorem sums_all (A : Option Addr) (l : List Rt) (c : Nat) (w : World) (hs : Sl eR 2 w A l) (hl : l.length ≤ 9223372036854775807) (hb : ∀ r ∈ l, r.num < 18446744073709551616 ∧ r.den < 18446744073709551616) :
    Calls Try.prog 4 #[.slice A l.length c] w fun e w' => e = .returned (.bool true) ∧ Below w.heap.size w w' := by
  by_cases h : 40 < l.length
  · exact sums_many A _ c w h hl
  · exact sums_few A l c w hs (by omega) hb
end Go.Proofs.Ytojglionlcjkjaa
