/- TableKeeps answers true at every set, table and tick: which tables keep all deadlines, who has any tick, and how many nobody has. No condition. -/
import Derived.Test.YtkhbnklaglnfdaaO
import Derived.Test.YtkhbnklaglnfdaaW7
namespace Go.Proofs.Ytkhbnklaglnfdaa
open Go.ChangeShapes Go.WideShapes Go.ChangeAt Go.RowKit Go.Joins

theorem tableKeeps_contract (H : Type) (enc : TypeId × Value → H) (W : World) (base : Nat) (args : Array Value) (ds gs : List (DataW H)) (before : List MemPlace)
    (hval : ∀ (j : Nat) t v, Try.f4.params[j]? = some t → args[j]? = some v → Value.okWide Try.prog W .any base t v)
    (hW : DataW.Whole enc Try.prog Try.f4.params.toList Rows.tableKeepsSpec.vars false W args.toList ds gs before) :
    Calls Try.prog 4 args W fun e W' => ∃ v, e = .returned v ∧ Rows.tableKeepsSpec.post enc Try.prog Try.f4 false true false false W args v W' := by
  have hW' := hW
  have hlt := hW.lt
  obtain ⟨p, q, hA0, hV, rfl, hfz, hnd⟩ := hW
  have hA : DataW.TrodAll enc Try.prog W 0 (fun _ => true) true Try.f4.params.toList args.toList ds p := hA0
  rw [Try.params4] at hA hval
  obtain ⟨v0, v1, v2, d0, d1, d2, p0, p1, p2, rfl, rfl, rfl, h0, h1, h2⟩ := trodAll_three hA
  obtain ⟨rfl, rfl⟩ := trodVars_none hV
  obtain ⟨A, l, c, rfl, hc_l, hm_l, h_l, g_l⟩ := open_rows (enc := eT) dec_tkOk Try.underlying22 (show Try.prog.cellsOf 29 = 3 by kernel_rfl) (by omega) (hval 0 22 v0 rfl rfl) h0 dec_tk
  have hl_l : l.length ≤ 9223372036854775807 := by simp only [maxLen] at hm_l; omega
  obtain ⟨B, s, d, rfl, hc_s, hm_s, h_s, g_s⟩ := open_rows (enc := eI) (fun a => (Lit.int .i64 a).wf = true) Try.underlying23 (show Try.prog.cellsOf 3 = 1 by kernel_rfl) (by omega) (hval 1 23 v1 rfl rfl) h1 (fun cs x n hl h => dec_int Try.underlying3 cs x n hl h)
  have hl_s : s.length ≤ 9223372036854775807 := by simp only [maxLen] at hm_s; omega
  obtain ⟨now, rfl, rfl, rfl, w_now⟩ := open_int Try.underlying3 (hval 2 3 v2 rfl rfl) h2
  have b_now := wf_i64 w_now
  clear hA0 hval
  refine (tkeeps_any A l c B s d now W h_l hl_l h_s hl_s hc_s (by omega)).mono fun e W' ⟨he, hb⟩ => ⟨_, he, ?_⟩
  exact law_post (tb := 4) rfl rfl Try.underlying4 (by rw [Try.params4]; decide +kernel) hW' rfl hb

set_option maxRecDepth 100000 in
theorem tableKeeps_lifted (os : Os) (started : os.Started) (H : Type) (enc : TypeId × Value → H) :
    ReturnsInHanded {} Try.checked os 4 .any (Rows.tableKeepsSpec.pre6 enc Try.prog Try.f4 Rows.tableKeepsRow.domain false) (Rows.tableKeepsSpec.post enc Try.prog Try.f4 false true false false) := by
  refine returnsInHanded_of_change (C := Try.checked) Try.own started (by kernel_rfl) Try.func4
    (ChangeSpec.witness6 (enc := enc) (C := Try.checked) false ⟨#[], #[.slice none 0 0, .slice none 0 0, .int .i64 0], []⟩ 8 (by kernel_rfl) (by kernel_rfl) (by kernel_rfl) (by kernel_rfl)) ?_
  intro W base args ds gs before hval hW _ _
  exact tableKeeps_contract H enc W base args ds gs before hval hW

theorem tableKeeps_holds : Rows.TableKeepsSaid :=
  OpenClaim.holds_of_wide 4 Try.f4 rfl rfl rfl rfl rfl rfl rfl ⟨rfl, rfl, rfl, rfl, rfl⟩ rfl rfl rfl rfl rfl (by kernel_rfl) Try.func4 (by kernel_rfl)
    (of_decide_eq_true (by kernel_rfl)) (by unfold Func.isWrapper; first | (rw [if_pos (by decide +kernel)]; kernel_rfl) | (rw [if_neg (by decide +kernel)]; exact ⟨rfl, rfl⟩))
    (fun os started H enc _ => tableKeeps_lifted os started H enc)

#print axioms tableKeeps_holds
end Go.Proofs.Ytkhbnklaglnfdaa
