/- TlbKeeps answers true at every translation and list of others: what was loaded is found while no other one of its page, and at most fifteen others, come. No condition. -/
import Derived.Test.YtfaddnedlloaiaaO
namespace Go.Proofs.Ytfaddnedlloaiaa
open Go.ChangeShapes Go.WideShapes Go.ChangeAt Go.RowKit Go.Joins

theorem tlbKeeps_contract (H : Type) (enc : TypeId × Value → H) (W : World) (base : Nat) (args : Array Value) (ds gs : List (DataW H)) (before : List MemPlace)
    (hval : ∀ (j : Nat) t v, Try.f3.params[j]? = some t → args[j]? = some v → Value.okWide Try.prog W .any base t v)
    (hW : DataW.Whole enc Try.prog Try.f3.params.toList Rows.tlbKeepsSpec.vars false W args.toList ds gs before) :
    Calls Try.prog 3 args W fun e W' => ∃ v, e = .returned v ∧ Rows.tlbKeepsSpec.post enc Try.prog Try.f3 false true false false W args v W' := by
  have hW' := hW
  have hlt := hW.lt
  obtain ⟨p, q, hA0, hV, rfl, hfz, hnd⟩ := hW
  have hA : DataW.TrodAll enc Try.prog W 0 (fun _ => true) true Try.f3.params.toList args.toList ds p := hA0
  rw [Try.params3] at hA hval
  obtain ⟨v0, v1, d0, d1, p0, p1, rfl, rfl, rfl, h0, h1⟩ := trodAll_two hA
  obtain ⟨rfl, rfl⟩ := trodVars_none hV
  obtain ⟨c00, c01, c02, c03, y00, y01, y02, y03, m0, rfl, rfl, rfl, hy00, hy01, hy02, hy03⟩ := open_agg4 Try.underlying23 (by kernel_rfl) (show Try.prog.cellsOf 23 = 4 by kernel_rfl) (hval 0 23 v0 rfl rfl) h0
  obtain ⟨env, e_env, rfl, w_env⟩ := DataW.trod_int Try.underlying3 hy00
  obtain ⟨page, e_page, rfl, w_page⟩ := DataW.trod_int Try.underlying3 hy01
  obtain ⟨frame, e_frame, rfl, w_frame⟩ := DataW.trod_int Try.underlying3 hy02
  obtain ⟨wr, e_wr, rfl⟩ := DataW.trod_bool Try.underlying4 hy03
  simp at e_env e_page e_frame e_wr
  subst e_env e_page e_frame e_wr
  have b_env := wf_i64 w_env
  have b_page := wf_i64 w_page
  have b_frame := wf_i64 w_frame
  obtain ⟨A, l, c, rfl, hc_l, hm_l, h_l, g_l⟩ := open_rows (enc := eE) dec_enOk Try.underlying24 (show Try.prog.cellsOf 23 = 4 by kernel_rfl) (by omega) (hval 1 24 v1 rfl rfl) h1 dec_en
  have hl_l : l.length ≤ 9223372036854775807 := by simp only [maxLen] at hm_l; omega
  clear hA0 hval
  refine (keeps_any ⟨env, page, frame, wr⟩ A l c W h_l hl_l).mono fun e W' ⟨he, hb⟩ => ⟨_, he, ?_⟩
  exact law_post (tb := 4) rfl rfl Try.underlying4 (by rw [Try.params3]; decide +kernel) hW' rfl hb

set_option maxRecDepth 100000 in
theorem tlbKeeps_lifted (os : Os) (started : os.Started) (H : Type) (enc : TypeId × Value → H) :
    ReturnsInHanded {} Try.checked os 3 .any (Rows.tlbKeepsSpec.pre6 enc Try.prog Try.f3 Rows.tlbKeepsRow.domain false) (Rows.tlbKeepsSpec.post enc Try.prog Try.f3 false true false false) := by
  refine returnsInHanded_of_change (C := Try.checked) Try.own started (by kernel_rfl) Try.func3
    (ChangeSpec.witness6 (enc := enc) (C := Try.checked) false ⟨#[], #[.agg #[.int .i64 0, .int .i64 0, .int .i64 0, .bool false], .slice none 0 0], []⟩ 8 (by kernel_rfl) (by kernel_rfl) (by kernel_rfl) (by kernel_rfl)) ?_
  intro W base args ds gs before hval hW _ _
  exact tlbKeeps_contract H enc W base args ds gs before hval hW

theorem tlbKeeps_holds : Rows.TlbKeepsSaid :=
  OpenClaim.holds_of_wide 3 Try.f3 rfl rfl rfl rfl rfl rfl rfl ⟨rfl, rfl, rfl, rfl, rfl⟩ rfl rfl rfl rfl rfl (by kernel_rfl) Try.func3 (by kernel_rfl)
    (of_decide_eq_true (by kernel_rfl)) (by unfold Func.isWrapper; first | (rw [if_pos (by decide +kernel)]; kernel_rfl) | (rw [if_neg (by decide +kernel)]; exact ⟨rfl, rfl⟩))
    (fun os started H enc _ => tlbKeeps_lifted os started H enc)

#print axioms tlbKeeps_holds
end Go.Proofs.Ytfaddnedlloaiaa
