/- EdfMeets answers true at every list of jobs, schedule and stretch: which schedules keep all deadlines, whether that of the earliest deadline does, what any stretch has to do, and the first one that has too much. No condition. -/
import Derived.Test.YtefeekdnhiggoaaO
import Derived.Test.YtefeekdnhiggoaaW12
namespace Go.Proofs.Ytefeekdnhiggoaa
open Go.ChangeShapes Go.WideShapes Go.ChangeAt Go.RowKit Go.Joins

theorem edfMeets_contract (H : Type) (enc : TypeId × Value → H) (W : World) (base : Nat) (args : Array Value) (ds gs : List (DataW H)) (before : List MemPlace)
    (hval : ∀ (j : Nat) t v, Try.f6.params[j]? = some t → args[j]? = some v → Value.okWide Try.prog W .any base t v)
    (hW : DataW.Whole enc Try.prog Try.f6.params.toList Rows.edfMeetsSpec.vars false W args.toList ds gs before) :
    Calls Try.prog 6 args W fun e W' => ∃ v, e = .returned v ∧ Rows.edfMeetsSpec.post enc Try.prog Try.f6 false true false false W args v W' := by
  have hW' := hW
  have hlt := hW.lt
  obtain ⟨p, q, hA0, hV, rfl, hfz, hnd⟩ := hW
  have hA : DataW.TrodAll enc Try.prog W 0 (fun _ => true) true Try.f6.params.toList args.toList ds p := hA0
  rw [Try.params6] at hA hval
  obtain ⟨v0, v1, v2, v3, d0, d1, d2, d3, p0, p1, p2, p3, rfl, rfl, rfl, h0, h1, h2, h3⟩ := trodAll_four hA
  obtain ⟨rfl, rfl⟩ := trodVars_none hV
  obtain ⟨A, js, c, rfl, hjc, hcm, hjs, _⟩ := open_rows (fun _ => True) Try.underlying22 (show Try.prog.cellsOf 45 = 3 by kernel_rfl) (by omega) (hval 0 22 v0 rfl rfl) h0 dec_job
  have hjl : js.length ≤ 9223372036854775807 := by simp only [maxLen] at hcm; omega
  obtain ⟨B, s, d, rfl, hwc, hwm, hws, _⟩ := open_rows (enc := eI) (fun _ => True) Try.underlying26 (show Try.prog.cellsOf 3 = 1 by kernel_rfl) (by omega) (hval 1 26 v1 rfl rfl) h1 (fun cs x n hl h => (dec_int Try.underlying3 cs x n hl h).imp fun _ h => ⟨h.1, trivial⟩)
  have hwl : s.length ≤ 9223372036854775807 := by simp only [maxLen] at hwm; omega
  obtain ⟨f, rfl, rfl, rfl, w_f⟩ := open_int Try.underlying3 (hval 2 3 v2 rfl rfl) h2
  have b_f := wf_i64 w_f
  obtain ⟨t, rfl, rfl, rfl, w_t⟩ := open_int Try.underlying3 (hval 3 3 v3 rfl rfl) h3
  have b_t := wf_i64 w_t
  clear hA0 hval
  refine (edfMeets_all A B js s c d f t W hjs hws hjl hwl).mono fun e W' ⟨he, hb⟩ => ⟨_, he, ?_⟩
  exact law_post (tb := 4) rfl rfl Try.underlying4 (by rw [Try.params6]; decide +kernel) hW' rfl hb

set_option maxRecDepth 100000 in
theorem edfMeets_lifted (os : Os) (started : os.Started) (H : Type) (enc : TypeId × Value → H) :
    ReturnsInHanded {} Try.checked os 6 .any (Rows.edfMeetsSpec.pre6 enc Try.prog Try.f6 Rows.edfMeetsRow.domain false) (Rows.edfMeetsSpec.post enc Try.prog Try.f6 false true false false) := by
  refine returnsInHanded_of_change (C := Try.checked) Try.own started (by kernel_rfl) Try.func6
    (ChangeSpec.witness6 (enc := enc) (C := Try.checked) false ⟨#[], #[.slice none 0 0, .slice none 0 0, .int .i64 0, .int .i64 0], []⟩ 8 (by kernel_rfl) (by kernel_rfl) (by kernel_rfl) (by kernel_rfl)) ?_
  intro W base args ds gs before hval hW _ _
  exact edfMeets_contract H enc W base args ds gs before hval hW

theorem edfMeets_holds : Rows.EdfMeetsSaid :=
  OpenClaim.holds_of_wide 6 Try.f6 rfl rfl rfl rfl rfl rfl rfl ⟨rfl, rfl, rfl, rfl, rfl⟩ rfl rfl rfl rfl rfl (by kernel_rfl) Try.func6 (by kernel_rfl)
    (of_decide_eq_true (by kernel_rfl)) (by unfold Func.isWrapper; first | (rw [if_pos (by decide +kernel)]; kernel_rfl) | (rw [if_neg (by decide +kernel)]; exact ⟨rfl, rfl⟩))
    (fun os started H enc _ => edfMeets_lifted os started H enc)

#print axioms edfMeets_holds
end Go.Proofs.Ytefeekdnhiggoaa
