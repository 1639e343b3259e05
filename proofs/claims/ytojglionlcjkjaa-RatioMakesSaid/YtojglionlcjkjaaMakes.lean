/- RatioMakes answers true at every two numbers and two fractions: every fraction of two numbers, which ones are made so, and which of two is less. No condition. -/
import Derived.Test.YtojglionlcjkjaaO
namespace Go.Proofs.Ytojglionlcjkjaa
open Go.ChangeShapes Go.WideShapes Go.ChangeAt Go.RowKit Go.Joins

theorem ratioMakes_contract (H : Type) (enc : TypeId × Value → H) (W : World) (base : Nat) (args : Array Value) (ds gs : List (DataW H)) (before : List MemPlace)
    (hval : ∀ (j : Nat) t v, Try.f5.params[j]? = some t → args[j]? = some v → Value.okWide Try.prog W .any base t v)
    (hW : DataW.Whole enc Try.prog Try.f5.params.toList Rows.ratioMakesSpec.vars false W args.toList ds gs before) :
    Calls Try.prog 5 args W fun e W' => ∃ v, e = .returned v ∧ Rows.ratioMakesSpec.post enc Try.prog Try.f5 false true false false W args v W' := by
  have hW' := hW
  have hlt := hW.lt
  obtain ⟨p, q, hA0, hV, rfl, hfz, hnd⟩ := hW
  have hA : DataW.TrodAll enc Try.prog W 0 (fun _ => true) true Try.f5.params.toList args.toList ds p := hA0
  rw [Try.params5] at hA hval
  obtain ⟨v0, v1, v2, v3, d0, d1, d2, d3, p0, p1, p2, p3, rfl, rfl, rfl, h0, h1, h2, h3⟩ := trodAll_four hA
  obtain ⟨rfl, rfl⟩ := trodVars_none hV
  obtain ⟨num, rfl, rfl, rfl, w_num⟩ := open_int Try.underlying22 (hval 0 22 v0 rfl rfl) h0
  have b_num := wf_u64 w_num
  obtain ⟨den, rfl, rfl, rfl, w_den⟩ := open_int Try.underlying22 (hval 1 22 v1 rfl rfl) h1
  have b_den := wf_u64 w_den
  obtain ⟨c20, c21, y20, y21, m2, rfl, rfl, rfl, hy20, hy21⟩ := open_agg2 Try.underlying24 (by kernel_rfl) (show Try.prog.cellsOf 24 = 2 by kernel_rfl) (hval 2 24 v2 rfl rfl) h2
  obtain ⟨an, e_an, rfl, w_an⟩ := DataW.trod_int Try.underlying22 hy20
  obtain ⟨ad, e_ad, rfl, w_ad⟩ := DataW.trod_int Try.underlying22 hy21
  simp at e_an e_ad
  subst e_an e_ad
  have b_an := wf_u64 w_an
  have b_ad := wf_u64 w_ad
  obtain ⟨c30, c31, y30, y31, m3, rfl, rfl, rfl, hy30, hy31⟩ := open_agg2 Try.underlying24 (by kernel_rfl) (show Try.prog.cellsOf 24 = 2 by kernel_rfl) (hval 3 24 v3 rfl rfl) h3
  obtain ⟨bn, e_bn, rfl, w_bn⟩ := DataW.trod_int Try.underlying22 hy30
  obtain ⟨bd, e_bd, rfl, w_bd⟩ := DataW.trod_int Try.underlying22 hy31
  simp at e_bn e_bd
  subst e_bn e_bd
  have b_bn := wf_u64 w_bn
  have b_bd := wf_u64 w_bd
  clear hA0 hval
  refine (makes_all num den an ad bn bd W b_num b_den b_an b_ad b_bn b_bd).mono fun e W' ⟨he, hb⟩ => ⟨_, he, ?_⟩
  exact law_post (tb := 4) rfl rfl Try.underlying4 (by rw [Try.params5]; decide +kernel) hW' rfl hb

set_option maxRecDepth 100000 in
theorem ratioMakes_lifted (os : Os) (started : os.Started) (H : Type) (enc : TypeId × Value → H) :
    ReturnsInHanded {} Try.checked os 5 .any (Rows.ratioMakesSpec.pre6 enc Try.prog Try.f5 Rows.ratioMakesRow.domain false) (Rows.ratioMakesSpec.post enc Try.prog Try.f5 false true false false) := by
  refine returnsInHanded_of_change (C := Try.checked) Try.own started (by kernel_rfl) Try.func5
    (ChangeSpec.witness6 (enc := enc) (C := Try.checked) false ⟨#[], #[.int .u64 0, .int .u64 0, .agg #[.int .u64 0, .int .u64 0], .agg #[.int .u64 0, .int .u64 0]], []⟩ 8 (by kernel_rfl) (by kernel_rfl) (by kernel_rfl) (by kernel_rfl)) ?_
  intro W base args ds gs before hval hW _ _
  exact ratioMakes_contract H enc W base args ds gs before hval hW

theorem ratioMakes_holds : Rows.RatioMakesSaid :=
  OpenClaim.holds_of_wide 5 Try.f5 rfl rfl rfl rfl rfl rfl rfl ⟨rfl, rfl, rfl, rfl, rfl⟩ rfl rfl rfl rfl rfl (by kernel_rfl) Try.func5 (by kernel_rfl)
    (of_decide_eq_true (by kernel_rfl)) (by unfold Func.isWrapper; first | (rw [if_pos (by decide +kernel)]; kernel_rfl) | (rw [if_neg (by decide +kernel)]; exact ⟨rfl, rfl⟩))
    (fun os started H enc _ => ratioMakes_lifted os started H enc)

#print axioms ratioMakes_holds
end Go.Proofs.Ytojglionlcjkjaa
