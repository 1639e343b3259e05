/- SupplyGives answers true at every reservation and number of ticks: which reservations may be, what each gives at least, and takes at most, and what part of the processor it is. No condition. -/
import Derived.Test.YtdpjencnfladlaaW4
namespace Go.Proofs.Ytdpjencnfladlaa
open Go.ChangeShapes Go.WideShapes Go.ChangeAt Go.RowKit Go.Joins

theorem supplyGives_contract (H : Type) (enc : TypeId × Value → H) (W : World) (base : Nat) (args : Array Value) (ds gs : List (DataW H)) (before : List MemPlace)
    (hval : ∀ (j : Nat) t v, Try.f6.params[j]? = some t → args[j]? = some v → Value.okWide Try.prog W .any base t v)
    (hW : DataW.Whole enc Try.prog Try.f6.params.toList Rows.supplyGivesSpec.vars false W args.toList ds gs before) :
    Calls Try.prog 6 args W fun e W' => ∃ v, e = .returned v ∧ Rows.supplyGivesSpec.post enc Try.prog Try.f6 false true false false W args v W' := by
  have hW' := hW
  have hlt := hW.lt
  obtain ⟨p, q, hA0, hV, rfl, hfz, hnd⟩ := hW
  have hA : DataW.TrodAll enc Try.prog W 0 (fun _ => true) true Try.f6.params.toList args.toList ds p := hA0
  rw [Try.params6] at hA hval
  obtain ⟨v0, v1, d0, d1, p0, p1, rfl, rfl, rfl, h0, h1⟩ := trodAll_two hA
  obtain ⟨rfl, rfl⟩ := trodVars_none hV
  obtain ⟨c00, c01, y00, y01, m0, rfl, rfl, rfl, hy00, hy01⟩ := open_agg2 Try.underlying23 (by kernel_rfl) (show Try.prog.cellsOf 23 = 2 by kernel_rfl) (hval 0 23 v0 rfl rfl) h0
  obtain ⟨b, e_b, rfl, w_b⟩ := DataW.trod_int Try.underlying3 hy00
  obtain ⟨p0, e_p0, rfl, w_p0⟩ := DataW.trod_int Try.underlying3 hy01
  simp at e_b e_p0
  subst e_b e_p0
  have b_b := wf_i64 w_b
  have b_p0 := wf_i64 w_p0
  obtain ⟨t, rfl, rfl, rfl, w_t⟩ := open_int Try.underlying3 (hval 1 3 v1 rfl rfl) h1
  have b_t := wf_i64 w_t
  clear hA0 hval
  refine (supplyGives_all b p0 t W).mono fun e W' ⟨he, hb⟩ => ⟨_, he, ?_⟩
  exact law_post (tb := 4) rfl rfl Try.underlying4 (by rw [Try.params6]; decide +kernel) hW' rfl hb

set_option maxRecDepth 100000 in
theorem supplyGives_lifted (os : Os) (started : os.Started) (H : Type) (enc : TypeId × Value → H) :
    ReturnsInHanded {} Try.checked os 6 .any (Rows.supplyGivesSpec.pre6 enc Try.prog Try.f6 Rows.supplyGivesRow.domain false) (Rows.supplyGivesSpec.post enc Try.prog Try.f6 false true false false) := by
  refine returnsInHanded_of_change (C := Try.checked) Try.own started (by kernel_rfl) Try.func6
    (ChangeSpec.witness6 (enc := enc) (C := Try.checked) false ⟨#[], #[.agg #[.int .i64 0, .int .i64 0], .int .i64 0], []⟩ 8 (by kernel_rfl) (by kernel_rfl) (by kernel_rfl) (by kernel_rfl)) ?_
  intro W base args ds gs before hval hW _ _
  exact supplyGives_contract H enc W base args ds gs before hval hW

theorem supplyGives_holds : Rows.SupplyGivesSaid :=
  OpenClaim.holds_of_wide 6 Try.f6 rfl rfl rfl rfl rfl rfl rfl ⟨rfl, rfl, rfl, rfl, rfl⟩ rfl rfl rfl rfl rfl (by kernel_rfl) Try.func6 (by kernel_rfl)
    (of_decide_eq_true (by kernel_rfl)) (by unfold Func.isWrapper; first | (rw [if_pos (by decide +kernel)]; kernel_rfl) | (rw [if_neg (by decide +kernel)]; exact ⟨rfl, rfl⟩))
    (fun os started H enc _ => supplyGives_lifted os started H enc)

#print axioms supplyGives_holds
end Go.Proofs.Ytdpjencnfladlaa
