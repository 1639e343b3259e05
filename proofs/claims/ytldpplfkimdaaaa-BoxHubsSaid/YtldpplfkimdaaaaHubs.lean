/- BoxHubs answers true at every list of rooms and of acts: what every call of a hub answers, and how much each of its boxes has behind it. No condition. -/
import Derived.Test.YtldpplfkimdaaaaO
import Derived.Test.YtldpplfkimdaaaaW24
namespace Go.Proofs.Ytldpplfkimdaaaa
open Go.ChangeShapes Go.WideShapes Go.ChangeAt Go.RowKit Go.Joins

set_option maxRecDepth 100000 in
set_option maxHeartbeats 1000000 in
theorem boxHubs_contract (H : Type) (enc : TypeId × Value → H) (W : World) (base : Nat) (args : Array Value) (ds gs : List (DataW H)) (before : List MemPlace)
    (hval : ∀ (j : Nat) t v, Try.f5.params[j]? = some t → args[j]? = some v → Value.okWide Try.prog W .any base t v)
    (hW : DataW.Whole enc Try.prog Try.f5.params.toList Rows.boxHubsSpec.vars false W args.toList ds gs before) :
    Calls Try.prog 5 args W fun e W' => ∃ v, e = .returned v ∧ Rows.boxHubsSpec.post enc Try.prog Try.f5 false true false false W args v W' := by
  have hW' := hW
  have hlt := hW.lt
  obtain ⟨p, q, hA0, hV, rfl, hfz, hnd⟩ := hW
  have hA : DataW.TrodAll enc Try.prog W 0 (fun _ => true) true Try.f5.params.toList args.toList ds p := hA0
  rw [Try.params5] at hA hval
  obtain ⟨v0, v1, d0, d1, p0, p1, rfl, rfl, rfl, h0, h1⟩ := trodAll_two hA
  obtain ⟨rfl, rfl⟩ := trodVars_none hV
  obtain ⟨B, s, d, rfl, hc_s, hm_s, h_s, g_s⟩ := open_rows (enc := eI) (fun a => (Lit.int .i64 a).wf = true) Try.underlying37 (show Try.prog.cellsOf 3 = 1 by kernel_rfl) (by omega) (hval 0 37 v0 rfl rfl) h0 (fun cs x n hl h => dec_int Try.underlying3 cs x n hl h)
  have hl_s : s.length ≤ 9223372036854775807 := by simp only [maxLen] at hm_s; omega
  obtain ⟨A, l, c, rfl, hc_l, hm_l, h_l, g_l⟩ := open_rows (enc := eA) dec_actOk Try.underlying22 (show Try.prog.cellsOf 30 = 5 by kernel_rfl) (by omega) (hval 1 22 v1 rfl rfl) h1 dec_act
  have hl_l : l.length ≤ 9223372036854775807 := by simp only [maxLen] at hm_l; omega
  clear hA0 hval
  refine (hubs_any B s d A l c W h_s h_l hl_s hl_l).mono fun e W' ⟨he, hb⟩ => ⟨_, he, ?_⟩
  exact law_post (tb := 4) rfl rfl Try.underlying4 (by rw [Try.params5]; decide +kernel) hW' rfl hb

set_option maxRecDepth 100000 in
theorem boxHubs_lifted (os : Os) (started : os.Started) (H : Type) (enc : TypeId × Value → H) :
    ReturnsInHanded {} Try.checked os 5 .any (Rows.boxHubsSpec.pre6 enc Try.prog Try.f5 Rows.boxHubsRow.domain false) (Rows.boxHubsSpec.post enc Try.prog Try.f5 false true false false) := by
  refine returnsInHanded_of_change (C := Try.checked) Try.own started (by kernel_rfl) Try.func5
    (ChangeSpec.witness6 (enc := enc) (C := Try.checked) false ⟨#[], #[.slice none 0 0, .slice none 0 0], []⟩ 8 (by kernel_rfl) (by kernel_rfl) (by kernel_rfl) (by kernel_rfl)) ?_
  intro W base args ds gs before hval hW _ _
  exact boxHubs_contract H enc W base args ds gs before hval hW

theorem boxHubs_holds : Rows.BoxHubsSaid :=
  OpenClaim.holds_of_wide 5 Try.f5 rfl rfl rfl rfl rfl rfl rfl ⟨rfl, rfl, rfl, rfl, rfl⟩ rfl rfl rfl rfl rfl (by kernel_rfl) Try.func5 (by kernel_rfl)
    (of_decide_eq_true (by kernel_rfl)) (by unfold Func.isWrapper; first | (rw [if_pos (by decide +kernel)]; kernel_rfl) | (rw [if_neg (by decide +kernel)]; exact ⟨rfl, rfl⟩))
    (fun os started H enc _ => boxHubs_lifted os started H enc)

#print axioms boxHubs_holds
end Go.Proofs.Ytldpplfkimdaaaa
