/- FitWiths answers true at every set, sections, task, section, reservation and number: whether deadlines are kept with one task more. No condition. -/
import Derived.Test.YtojccjdldmjfgaaO
import Derived.Test.YtojccjdldmjfgaaW6
namespace Go.Proofs.Ytojccjdldmjfgaa
open Go.ChangeShapes Go.WideShapes Go.ChangeAt Go.RowKit Go.Joins

theorem fitWiths_contract (H : Type) (enc : TypeId × Value → H) (W : World) (base : Nat) (args : Array Value) (ds gs : List (DataW H)) (before : List MemPlace)
    (hval : ∀ (j : Nat) t v, Try.f4.params[j]? = some t → args[j]? = some v → Value.okWide Try.prog W .any base t v)
    (hW : DataW.Whole enc Try.prog Try.f4.params.toList Rows.fitWithsSpec.vars false W args.toList ds gs before) :
    Calls Try.prog 4 args W fun e W' => ∃ v, e = .returned v ∧ Rows.fitWithsSpec.post enc Try.prog Try.f4 false true false false W args v W' := by
  have hW' := hW
  have hlt := hW.lt
  obtain ⟨p, q, hA0, hV, rfl, hfz, hnd⟩ := hW
  have hA : DataW.TrodAll enc Try.prog W 0 (fun _ => true) true Try.f4.params.toList args.toList ds p := hA0
  rw [Try.params4] at hA hval
  obtain ⟨v0, vs0, d0, ds0, p0, q0, hargs, rfl, rfl, h0, r0⟩ := trodAll_cons hA
  obtain ⟨v1, vs1, d1, ds1, p1, q1, rfl, rfl, rfl, h1, r1⟩ := trodAll_cons r0
  obtain ⟨v2, vs2, d2, ds2, p2, q2, rfl, rfl, rfl, h2, r2⟩ := trodAll_cons r1
  obtain ⟨v3, vs3, d3, ds3, p3, q3, rfl, rfl, rfl, h3, r3⟩ := trodAll_cons r2
  obtain ⟨v4, vs4, d4, ds4, p4, q4, rfl, rfl, rfl, h4, r4⟩ := trodAll_cons r3
  obtain ⟨v5, vs5, d5, ds5, p5, q5, rfl, rfl, rfl, h5, r5⟩ := trodAll_cons r4
  obtain ⟨rfl, rfl, rfl⟩ := trodAll_nil r5
  obtain rfl : args = #[v0, v1, v2, v3, v4, v5] := by cases args; simp_all
  obtain ⟨rfl, rfl⟩ := trodVars_none hV
  obtain ⟨A, l, c, rfl, hc_l, hm_l, h_l, g_l⟩ := open_rows (enc := eT) dec_tkOk Try.underlying22 (show Try.prog.cellsOf 40 = 3 by kernel_rfl) (by omega) (hval 0 22 v0 rfl rfl) h0 dec_tk
  have hl_l : l.length ≤ 9223372036854775807 := by simp only [maxLen] at hm_l; omega
  obtain ⟨B, s, d, rfl, hc_s, hm_s, h_s, g_s⟩ := open_rows (enc := eI) (fun a => (Lit.int .i64 a).wf = true) Try.underlying23 (show Try.prog.cellsOf 3 = 1 by kernel_rfl) (by omega) (hval 1 23 v1 rfl rfl) h1 (fun cs x n hl h => dec_int Try.underlying3 cs x n hl h)
  have hl_s : s.length ≤ 9223372036854775807 := by simp only [maxLen] at hm_s; omega
  obtain ⟨c20, c21, c22, y20, y21, y22, m2, rfl, rfl, rfl, hy20, hy21, hy22⟩ := open_agg3 Try.underlying40 (by kernel_rfl) (show Try.prog.cellsOf 40 = 3 by kernel_rfl) (hval 2 40 v2 rfl rfl) h2
  obtain ⟨cost, e_cost, rfl, w_cost⟩ := DataW.trod_int Try.underlying3 hy20
  obtain ⟨period, e_period, rfl, w_period⟩ := DataW.trod_int Try.underlying3 hy21
  obtain ⟨dead, e_dead, rfl, w_dead⟩ := DataW.trod_int Try.underlying3 hy22
  simp at e_cost e_period e_dead
  subst e_cost e_period e_dead
  have b_cost := wf_i64 w_cost
  have b_period := wf_i64 w_period
  have b_dead := wf_i64 w_dead
  obtain ⟨sec, rfl, rfl, rfl, w_sec⟩ := open_int Try.underlying3 (hval 3 3 v3 rfl rfl) h3
  have b_sec := wf_i64 w_sec
  obtain ⟨c40, c41, y40, y41, m4, rfl, rfl, rfl, hy40, hy41⟩ := open_agg2 Try.underlying25 (by kernel_rfl) (show Try.prog.cellsOf 25 = 2 by kernel_rfl) (hval 4 25 v4 rfl rfl) h4
  obtain ⟨b, e_b, rfl, w_b⟩ := DataW.trod_int Try.underlying3 hy40
  obtain ⟨p_, e_p_, rfl, w_p_⟩ := DataW.trod_int Try.underlying3 hy41
  simp at e_b e_p_
  subst e_b e_p_
  have b_b := wf_i64 w_b
  have b_p_ := wf_i64 w_p_
  obtain ⟨n, rfl, rfl, rfl, w_n⟩ := open_int Try.underlying3 (hval 5 3 v5 rfl rfl) h5
  have b_n := wf_i64 w_n
  clear hA0 hval
  refine (withs_any A l c B s d ⟨cost, period, dead⟩ sec b p_ n W h_l hl_l h_s hl_s).mono fun e W' ⟨he, hb⟩ => ⟨_, he, ?_⟩
  exact law_post (tb := 4) rfl rfl Try.underlying4 (by rw [Try.params4]; decide +kernel) hW' rfl hb

set_option maxRecDepth 100000 in
theorem fitWiths_lifted (os : Os) (started : os.Started) (H : Type) (enc : TypeId × Value → H) :
    ReturnsInHanded {} Try.checked os 4 .any (Rows.fitWithsSpec.pre6 enc Try.prog Try.f4 Rows.fitWithsRow.domain false) (Rows.fitWithsSpec.post enc Try.prog Try.f4 false true false false) := by
  refine returnsInHanded_of_change (C := Try.checked) Try.own started (by kernel_rfl) Try.func4
    (ChangeSpec.witness6 (enc := enc) (C := Try.checked) false ⟨#[], #[.slice none 0 0, .slice none 0 0, .agg #[.int .i64 0, .int .i64 0, .int .i64 0], .int .i64 0, .agg #[.int .i64 0, .int .i64 0], .int .i64 0], []⟩ 8 (by kernel_rfl) (by kernel_rfl) (by kernel_rfl) (by kernel_rfl)) ?_
  intro W base args ds gs before hval hW _ _
  exact fitWiths_contract H enc W base args ds gs before hval hW

theorem fitWiths_holds : Rows.FitWithsSaid :=
  OpenClaim.holds_of_wide 4 Try.f4 rfl rfl rfl rfl rfl rfl rfl ⟨rfl, rfl, rfl, rfl, rfl⟩ rfl rfl rfl rfl rfl (by kernel_rfl) Try.func4 (by kernel_rfl)
    (of_decide_eq_true (by kernel_rfl)) (by unfold Func.isWrapper; first | (rw [if_pos (by decide +kernel)]; kernel_rfl) | (rw [if_neg (by decide +kernel)]; exact ⟨rfl, rfl⟩))
    (fun os started H enc _ => fitWiths_lifted os started H enc)

#print axioms fitWiths_holds
end Go.Proofs.Ytojccjdldmjfgaa
