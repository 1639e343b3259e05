/- FitSlacks answers true at every set, sections, reservation and number: the worst stretch, and what is left in it. No condition. -/
import Derived.Test.YtojccjdldmjfgaaO
import Derived.Test.YtojccjdldmjfgaaW4
namespace Go.Proofs.Ytojccjdldmjfgaa
open Go.ChangeShapes Go.WideShapes Go.ChangeAt Go.RowKit Go.Joins

theorem fitSlacks_contract (H : Type) (enc : TypeId × Value → H) (W : World) (base : Nat) (args : Array Value) (ds gs : List (DataW H)) (before : List MemPlace)
    (hval : ∀ (j : Nat) t v, Try.f5.params[j]? = some t → args[j]? = some v → Value.okWide Try.prog W .any base t v)
    (hW : DataW.Whole enc Try.prog Try.f5.params.toList Rows.fitSlacksSpec.vars false W args.toList ds gs before) :
    Calls Try.prog 5 args W fun e W' => ∃ v, e = .returned v ∧ Rows.fitSlacksSpec.post enc Try.prog Try.f5 false true false false W args v W' := by
  have hW' := hW
  have hlt := hW.lt
  obtain ⟨p, q, hA0, hV, rfl, hfz, hnd⟩ := hW
  have hA : DataW.TrodAll enc Try.prog W 0 (fun _ => true) true Try.f5.params.toList args.toList ds p := hA0
  rw [Try.params5] at hA hval
  obtain ⟨v0, v1, v2, v3, d0, d1, d2, d3, p0, p1, p2, p3, rfl, rfl, rfl, h0, h1, h2, h3⟩ := trodAll_four hA
  obtain ⟨rfl, rfl⟩ := trodVars_none hV
  obtain ⟨A, l, c, rfl, hc_l, hm_l, h_l, g_l⟩ := open_rows (enc := eT) dec_tkOk Try.underlying22 (show Try.prog.cellsOf 40 = 3 by kernel_rfl) (by omega) (hval 0 22 v0 rfl rfl) h0 dec_tk
  have hl_l : l.length ≤ 9223372036854775807 := by simp only [maxLen] at hm_l; omega
  obtain ⟨B, s, d, rfl, hc_s, hm_s, h_s, g_s⟩ := open_rows (enc := eI) (fun a => (Lit.int .i64 a).wf = true) Try.underlying23 (show Try.prog.cellsOf 3 = 1 by kernel_rfl) (by omega) (hval 1 23 v1 rfl rfl) h1 (fun cs x n hl h => dec_int Try.underlying3 cs x n hl h)
  have hl_s : s.length ≤ 9223372036854775807 := by simp only [maxLen] at hm_s; omega
  obtain ⟨c20, c21, y20, y21, m2, rfl, rfl, rfl, hy20, hy21⟩ := open_agg2 Try.underlying25 (by kernel_rfl) (show Try.prog.cellsOf 25 = 2 by kernel_rfl) (hval 2 25 v2 rfl rfl) h2
  obtain ⟨b, e_b, rfl, w_b⟩ := DataW.trod_int Try.underlying3 hy20
  obtain ⟨p_, e_p_, rfl, w_p_⟩ := DataW.trod_int Try.underlying3 hy21
  simp at e_b e_p_
  subst e_b e_p_
  have b_b := wf_i64 w_b
  have b_p_ := wf_i64 w_p_
  obtain ⟨n, rfl, rfl, rfl, w_n⟩ := open_int Try.underlying3 (hval 3 3 v3 rfl rfl) h3
  have b_n := wf_i64 w_n
  clear hA0 hval
  refine (slacks_any A l c B s d b p_ n W h_l hl_l h_s hl_s).mono fun e W' ⟨he, hb⟩ => ⟨_, he, ?_⟩
  exact law_post (tb := 4) rfl rfl Try.underlying4 (by rw [Try.params5]; decide +kernel) hW' rfl hb

set_option maxRecDepth 100000 in
theorem fitSlacks_lifted (os : Os) (started : os.Started) (H : Type) (enc : TypeId × Value → H) :
    ReturnsInHanded {} Try.checked os 5 .any (Rows.fitSlacksSpec.pre6 enc Try.prog Try.f5 Rows.fitSlacksRow.domain false) (Rows.fitSlacksSpec.post enc Try.prog Try.f5 false true false false) := by
  refine returnsInHanded_of_change (C := Try.checked) Try.own started (by kernel_rfl) Try.func5
    (ChangeSpec.witness6 (enc := enc) (C := Try.checked) false ⟨#[], #[.slice none 0 0, .slice none 0 0, .agg #[.int .i64 0, .int .i64 0], .int .i64 0], []⟩ 8 (by kernel_rfl) (by kernel_rfl) (by kernel_rfl) (by kernel_rfl)) ?_
  intro W base args ds gs before hval hW _ _
  exact fitSlacks_contract H enc W base args ds gs before hval hW

theorem fitSlacks_holds : Rows.FitSlacksSaid :=
  OpenClaim.holds_of_wide 5 Try.f5 rfl rfl rfl rfl rfl rfl rfl ⟨rfl, rfl, rfl, rfl, rfl⟩ rfl rfl rfl rfl rfl (by kernel_rfl) Try.func5 (by kernel_rfl)
    (of_decide_eq_true (by kernel_rfl)) (by unfold Func.isWrapper; first | (rw [if_pos (by decide +kernel)]; kernel_rfl) | (rw [if_neg (by decide +kernel)]; exact ⟨rfl, rfl⟩))
    (fun os started H enc _ => fitSlacks_lifted os started H enc)

#print axioms fitSlacks_holds
end Go.Proofs.Ytojccjdldmjfgaa
