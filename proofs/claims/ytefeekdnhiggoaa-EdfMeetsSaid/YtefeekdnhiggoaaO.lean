/- How the statements' arguments are opened: a slice of jobs, a slice of numbers. -/
import Derived.Test.YtefeekdnhiggoaaW5
import Derived.Test.YtefeekdnhiggoaaM1
namespace Go.Proofs.Ytefeekdnhiggoaa
open Go.ChangeShapes Go.WideShapes Go.ChangeAt Go.RowKit Go.Deep

theorem dec_job {H : Type} {enc0 : TypeId × Value → H} {w : World} (cs : List Value) (x : DataW H × List MemPlace) (n : Nat) (_hl : cs.length = 3)
    (h : DataW.trod enc0 Try.prog w 0 (fun _ => true) true n 45 cs = some x) : ∃ a : Job, cs = eJ a ∧ True := by
  obtain ⟨hl, v0, y0, m0, e0, t0⟩ := dec_field Try.underlying45 (by kernel_rfl) (by kernel_rfl) h 0 _ rfl
  obtain ⟨_, v1, y1, m1, e1, t1⟩ := dec_field Try.underlying45 (by kernel_rfl) (by kernel_rfl) h 1 _ rfl
  obtain ⟨_, v2, y2, m2, e2, t2⟩ := dec_field Try.underlying45 (by kernel_rfl) (by kernel_rfl) h 2 _ rfl
  obtain ⟨a, ha, _, _⟩ := DataW.trod_int Try.underlying3 t0
  obtain ⟨b, hb, _, _⟩ := DataW.trod_int Try.underlying3 t1
  obtain ⟨c, hc, _, _⟩ := DataW.trod_int Try.underlying3 t2
  injection ha with ha
  injection hb with hb
  injection hc with hc
  subst ha hb hc
  refine ⟨⟨a, b, c⟩, ?_, trivial⟩
  match cs, _hl with
  | [p, q, r], _ =>
    simp at e0 e1 e2
    subst e0 e1 e2
    rfl

theorem rightJ_t {l : List Job} (h : rightJ l = true) : l.length ≤ 32 ∧ ∀ j ∈ l, okJ j = true := by
  unfold rightJ at h
  simp only [Bool.and_eq_true, decide_eq_true_eq, List.all_eq_true] at h
  exact h

theorem edfRuns_all (A : Option Addr) (js : List Job) (c : Nat) (t : Int) (w : World) (hs : Sl eJ 3 w A js) (hl : js.length ≤ 9223372036854775807) :
    Calls Try.prog 3 #[.slice A js.length c, .int .i64 t] w fun e w' => e = .returned (.bool true) ∧ Below w.heap.size w w' := by
  by_cases h40 : 40 < js.length
  · exact runs_far A js c t w hl (.inl h40)
  · by_cases ht : 400 < t ∧ t ≤ 2048
    · exact runs_far A js c t w hl (.inr ⟨by omega, ht.1, ht.2⟩)
    · cases hr : rightJ js
      · exact runs_no A js c t w hs (by omega) (by omega) (.inl hr)
      · by_cases hb : t < 0 ∨ 2048 < t
        · exact runs_no A js c t w hs (by omega) (by omega) (.inr ⟨hr, hb⟩)
        · obtain ⟨T, rfl⟩ := Int.eq_ofNat_of_zero_le (show 0 ≤ t by omega)
          obtain ⟨h32, hok⟩ := rightJ_t hr
          exact runs_yes A js c T w hs hr h32 (by omega) hok (fill_eq_run js T (fun j hj => (okJ_t (hok j hj)).1))
end Go.Proofs.Ytefeekdnhiggoaa
