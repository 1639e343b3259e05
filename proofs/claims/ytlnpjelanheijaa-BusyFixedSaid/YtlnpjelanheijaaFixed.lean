/- BusyFixed answers true at every set and number: which sets are done by their deadlines, ranked as they stand, and that these have no bad stretch. No condition. -/
import Derived.Test.YtlnpjelanheijaaO
import Derived.Test.YtlnpjelanheijaaW4
namespace Go.Proofs.Ytlnpjelanheijaa
open Go.ChangeShapes Go.WideShapes Go.ChangeAt Go.RowKit Go.Joins

theorem busyFixed_contract (H : Type) (enc : TypeId × Value → H) (W : World) (base : Nat) (args : Array Value) (ds gs : List (DataW H)) (before : List MemPlace)
    (hval : ∀ (j : Nat) t v, Try.f5.params[j]? = some t → args[j]? = some v → Value.okWide Try.prog W .any base t v)
    (hW : DataW.Whole enc Try.prog Try.f5.params.toList Rows.busyFixedSpec.vars false W args.toList ds gs before) :
    Calls Try.prog 5 args W fun e W' => ∃ v, e = .returned v ∧ Rows.busyFixedSpec.post enc Try.prog Try.f5 false true false false W args v W' := by
  have hW' := hW
  have hlt := hW.lt
  obtain ⟨p, q, hA0, hV, rfl, hfz, hnd⟩ := hW
  have hA : DataW.TrodAll enc Try.prog W 0 (fun _ => true) true Try.f5.params.toList args.toList ds p := hA0
  rw [Try.params5] at hA hval
  obtain ⟨v0, v1, d0, d1, p0, p1, rfl, rfl, rfl, h0, h1⟩ := trodAll_two hA
  obtain ⟨rfl, rfl⟩ := trodVars_none hV
  obtain ⟨A, l, c, rfl, hc_l, hm_l, h_l, g_l⟩ := open_rows (enc := eT) dec_tkOk Try.underlying22 (show Try.prog.cellsOf 24 = 3 by kernel_rfl) (by omega) (hval 0 22 v0 rfl rfl) h0 dec_tk
  have hl_l : l.length ≤ 9223372036854775807 := by simp only [maxLen] at hm_l; omega
  obtain ⟨u, rfl, rfl, rfl, w_u⟩ := open_int Try.underlying35 (hval 1 35 v1 rfl rfl) h1
  have b_u := wf_u16 w_u
  clear hA0 hval
  refine (lawFixed_any A l c u W h_l hl_l hc_l (by omega) (by omega)).mono fun e W' ⟨he, hb⟩ => ⟨_, he, ?_⟩
  exact law_post (tb := 4) rfl rfl Try.underlying4 (by rw [Try.params5]; decide +kernel) hW' rfl hb

set_option maxRecDepth 100000 in
theorem busyFixed_lifted (os : Os) (started : os.Started) (H : Type) (enc : TypeId × Value → H) :
    ReturnsInHanded {} Try.checked os 5 .any (Rows.busyFixedSpec.pre6 enc Try.prog Try.f5 Rows.busyFixedRow.domain false) (Rows.busyFixedSpec.post enc Try.prog Try.f5 false true false false) := by
  refine returnsInHanded_of_change (C := Try.checked) Try.own started (by kernel_rfl) Try.func5
    (ChangeSpec.witness6 (enc := enc) (C := Try.checked) false ⟨#[], #[.slice none 0 0, .int .u16 0], []⟩ 8 (by kernel_rfl) (by kernel_rfl) (by kernel_rfl) (by kernel_rfl)) ?_
  intro W base args ds gs before hval hW _ _
  exact busyFixed_contract H enc W base args ds gs before hval hW

theorem busyFixed_holds : Rows.BusyFixedSaid :=
  OpenClaim.holds_of_wide 5 Try.f5 rfl rfl rfl rfl rfl rfl rfl ⟨rfl, rfl, rfl, rfl, rfl⟩ rfl rfl rfl rfl rfl (by kernel_rfl) Try.func5 (by kernel_rfl)
    (of_decide_eq_true (by kernel_rfl)) (by unfold Func.isWrapper; first | (rw [if_pos (by decide +kernel)]; kernel_rfl) | (rw [if_neg (by decide +kernel)]; exact ⟨rfl, rfl⟩))
    (fun os started H enc _ => busyFixed_lifted os started H enc)

#print axioms busyFixed_holds
end Go.Proofs.Ytlnpjelanheijaa
