/- SupplyLeast answers true at every period, need and number of ticks: the least budget that gives so much, or that there is none. No condition. -/
import Derived.Test.YtdpjencnfladlaaW3
namespace Go.Proofs.Ytdpjencnfladlaa
open Go.ChangeShapes Go.WideShapes Go.ChangeAt Go.RowKit Go.Joins

theorem supplyLeast_contract (H : Type) (enc : TypeId × Value → H) (W : World) (base : Nat) (args : Array Value) (ds gs : List (DataW H)) (before : List MemPlace)
    (hval : ∀ (j : Nat) t v, Try.f5.params[j]? = some t → args[j]? = some v → Value.okWide Try.prog W .any base t v)
    (hW : DataW.Whole enc Try.prog Try.f5.params.toList Rows.supplyLeastSpec.vars false W args.toList ds gs before) :
    Calls Try.prog 5 args W fun e W' => ∃ v, e = .returned v ∧ Rows.supplyLeastSpec.post enc Try.prog Try.f5 false true false false W args v W' := by
  have hW' := hW
  have hlt := hW.lt
  obtain ⟨p, q, hA0, hV, rfl, hfz, hnd⟩ := hW
  have hA : DataW.TrodAll enc Try.prog W 0 (fun _ => true) true Try.f5.params.toList args.toList ds p := hA0
  rw [Try.params5] at hA hval
  obtain ⟨v0, v1, v2, d0, d1, d2, p0, p1, p2, rfl, rfl, rfl, h0, h1, h2⟩ := trodAll_three hA
  obtain ⟨rfl, rfl⟩ := trodVars_none hV
  obtain ⟨p1, rfl, rfl, rfl, w_p1⟩ := open_int Try.underlying3 (hval 0 3 v0 rfl rfl) h0
  have b_p1 := wf_i64 w_p1
  obtain ⟨need, rfl, rfl, rfl, w_need⟩ := open_int Try.underlying3 (hval 1 3 v1 rfl rfl) h1
  have b_need := wf_i64 w_need
  obtain ⟨t, rfl, rfl, rfl, w_t⟩ := open_int Try.underlying3 (hval 2 3 v2 rfl rfl) h2
  have b_t := wf_i64 w_t
  clear hA0 hval
  refine (supplyLeast_all p1 need t W b_need.2).mono fun e W' ⟨he, hb⟩ => ⟨_, he, ?_⟩
  exact law_post (tb := 4) rfl rfl Try.underlying4 (by rw [Try.params5]; decide +kernel) hW' rfl hb

set_option maxRecDepth 100000 in
theorem supplyLeast_lifted (os : Os) (started : os.Started) (H : Type) (enc : TypeId × Value → H) :
    ReturnsInHanded {} Try.checked os 5 .any (Rows.supplyLeastSpec.pre6 enc Try.prog Try.f5 Rows.supplyLeastRow.domain false) (Rows.supplyLeastSpec.post enc Try.prog Try.f5 false true false false) := by
  refine returnsInHanded_of_change (C := Try.checked) Try.own started (by kernel_rfl) Try.func5
    (ChangeSpec.witness6 (enc := enc) (C := Try.checked) false ⟨#[], #[.int .i64 0, .int .i64 0, .int .i64 0], []⟩ 8 (by kernel_rfl) (by kernel_rfl) (by kernel_rfl) (by kernel_rfl)) ?_
  intro W base args ds gs before hval hW _ _
  exact supplyLeast_contract H enc W base args ds gs before hval hW

theorem supplyLeast_holds : Rows.SupplyLeastSaid :=
  OpenClaim.holds_of_wide 5 Try.f5 rfl rfl rfl rfl rfl rfl rfl ⟨rfl, rfl, rfl, rfl, rfl⟩ rfl rfl rfl rfl rfl (by kernel_rfl) Try.func5 (by kernel_rfl)
    (of_decide_eq_true (by kernel_rfl)) (by unfold Func.isWrapper; first | (rw [if_pos (by decide +kernel)]; kernel_rfl) | (rw [if_neg (by decide +kernel)]; exact ⟨rfl, rfl⟩))
    (fun os started H enc _ => supplyLeast_lifted os started H enc)

#print axioms supplyLeast_holds
end Go.Proofs.Ytdpjencnfladlaa
