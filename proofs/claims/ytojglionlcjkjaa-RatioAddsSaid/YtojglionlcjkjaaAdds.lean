/- RatioAdds answers true at every two fractions: the sum of any two, or why there is none. No condition. -/
import Derived.Test.YtojglionlcjkjaaO2
namespace Go.Proofs.Ytojglionlcjkjaa
open Go.ChangeShapes Go.WideShapes Go.ChangeAt Go.RowKit Go.Joins

theorem ratioAdds_contract (H : Type) (enc : TypeId × Value → H) (W : World) (base : Nat) (args : Array Value) (ds gs : List (DataW H)) (before : List MemPlace)
    (hval : ∀ (j : Nat) t v, Try.f3.params[j]? = some t → args[j]? = some v → Value.okWide Try.prog W .any base t v)
    (hW : DataW.Whole enc Try.prog Try.f3.params.toList Rows.ratioAddsSpec.vars false W args.toList ds gs before) :
    Calls Try.prog 3 args W fun e W' => ∃ v, e = .returned v ∧ Rows.ratioAddsSpec.post enc Try.prog Try.f3 false true false false W args v W' := by
  have hW' := hW
  have hlt := hW.lt
  obtain ⟨p, q, hA0, hV, rfl, hfz, hnd⟩ := hW
  have hA : DataW.TrodAll enc Try.prog W 0 (fun _ => true) true Try.f3.params.toList args.toList ds p := hA0
  rw [Try.params3] at hA hval
  obtain ⟨v0, v1, d0, d1, p0, p1, rfl, rfl, rfl, h0, h1⟩ := trodAll_two hA
  obtain ⟨rfl, rfl⟩ := trodVars_none hV
  obtain ⟨c00, c01, y00, y01, m0, rfl, rfl, rfl, hy00, hy01⟩ := open_agg2 Try.underlying24 (by kernel_rfl) (show Try.prog.cellsOf 24 = 2 by kernel_rfl) (hval 0 24 v0 rfl rfl) h0
  obtain ⟨an, e_an, rfl, w_an⟩ := DataW.trod_int Try.underlying22 hy00
  obtain ⟨ad, e_ad, rfl, w_ad⟩ := DataW.trod_int Try.underlying22 hy01
  simp at e_an e_ad
  subst e_an e_ad
  have b_an := wf_u64 w_an
  have b_ad := wf_u64 w_ad
  obtain ⟨c10, c11, y10, y11, m1, rfl, rfl, rfl, hy10, hy11⟩ := open_agg2 Try.underlying24 (by kernel_rfl) (show Try.prog.cellsOf 24 = 2 by kernel_rfl) (hval 1 24 v1 rfl rfl) h1
  obtain ⟨bn, e_bn, rfl, w_bn⟩ := DataW.trod_int Try.underlying22 hy10
  obtain ⟨bd, e_bd, rfl, w_bd⟩ := DataW.trod_int Try.underlying22 hy11
  simp at e_bn e_bd
  subst e_bn e_bd
  have b_bn := wf_u64 w_bn
  have b_bd := wf_u64 w_bd
  clear hA0 hval
  refine (adds_all an ad bn bd W b_an b_ad b_bn b_bd).mono fun e W' ⟨he, hb⟩ => ⟨_, he, ?_⟩
  exact law_post (tb := 4) rfl rfl Try.underlying4 (by rw [Try.params3]; decide +kernel) hW' rfl hb

set_option maxRecDepth 100000 in
theorem ratioAdds_lifted (os : Os) (started : os.Started) (H : Type) (enc : TypeId × Value → H) :
    ReturnsInHanded {} Try.checked os 3 .any (Rows.ratioAddsSpec.pre6 enc Try.prog Try.f3 Rows.ratioAddsRow.domain false) (Rows.ratioAddsSpec.post enc Try.prog Try.f3 false true false false) := by
  refine returnsInHanded_of_change (C := Try.checked) Try.own started (by kernel_rfl) Try.func3
    (ChangeSpec.witness6 (enc := enc) (C := Try.checked) false ⟨#[], #[.agg #[.int .u64 0, .int .u64 0], .agg #[.int .u64 0, .int .u64 0]], []⟩ 8 (by kernel_rfl) (by kernel_rfl) (by kernel_rfl) (by kernel_rfl)) ?_
  intro W base args ds gs before hval hW _ _
  exact ratioAdds_contract H enc W base args ds gs before hval hW

theorem ratioAdds_holds : Rows.RatioAddsSaid :=
  OpenClaim.holds_of_wide 3 Try.f3 rfl rfl rfl rfl rfl rfl rfl ⟨rfl, rfl, rfl, rfl, rfl⟩ rfl rfl rfl rfl rfl (by kernel_rfl) Try.func3 (by kernel_rfl)
    (of_decide_eq_true (by kernel_rfl)) (by unfold Func.isWrapper; first | (rw [if_pos (by decide +kernel)]; kernel_rfl) | (rw [if_neg (by decide +kernel)]; exact ⟨rfl, rfl⟩))
    (fun os started H enc _ => ratioAdds_lifted os started H enc)

#print axioms ratioAdds_holds
end Go.Proofs.Ytojglionlcjkjaa
