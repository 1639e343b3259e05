/- ShapePlays answers true at every period and list of acts: what every call answers, when something may come, whether one waits, and how many came and were refused. No condition. -/
import Derived.Test.YtcalpfpbafnckaaO
import Derived.Test.YtcalpfpbafnckaaW4
namespace Go.Proofs.Ytcalpfpbafnckaa
open Go.ChangeShapes Go.WideShapes Go.ChangeAt Go.RowKit Go.Joins

theorem shapePlays_contract (H : Type) (enc : TypeId × Value → H) (W : World) (base : Nat) (args : Array Value) (ds gs : List (DataW H)) (before : List MemPlace)
    (hval : ∀ (j : Nat) t v, Try.f4.params[j]? = some t → args[j]? = some v → Value.okWide Try.prog W .any base t v)
    (hW : DataW.Whole enc Try.prog Try.f4.params.toList Rows.shapePlaysSpec.vars false W args.toList ds gs before) :
    Calls Try.prog 4 args W fun e W' => ∃ v, e = .returned v ∧ Rows.shapePlaysSpec.post enc Try.prog Try.f4 false true false false W args v W' := by
  have hW' := hW
  have hlt := hW.lt
  obtain ⟨p, q, hA0, hV, rfl, hfz, hnd⟩ := hW
  have hA : DataW.TrodAll enc Try.prog W 0 (fun _ => true) true Try.f4.params.toList args.toList ds p := hA0
  rw [Try.params4] at hA hval
  obtain ⟨v0, v1, d0, d1, p0, p1, rfl, rfl, rfl, h0, h1⟩ := trodAll_two hA
  obtain ⟨rfl, rfl⟩ := trodVars_none hV
  obtain ⟨p, rfl, rfl, rfl, w_p⟩ := open_int Try.underlying3 (hval 0 3 v0 rfl rfl) h0
  have b_p := wf_i64 w_p
  obtain ⟨A, l, c, rfl, hjc, hcm, hls, _⟩ := open_rows (fun _ => True) Try.underlying22 (show Try.prog.cellsOf 29 = 2 by kernel_rfl) (by omega) (hval 1 22 v1 rfl rfl) h1 dec_act
  have hll : l.length ≤ 9223372036854775807 := by simp only [maxLen] at hcm; omega
  clear hA0 hval
  refine (plays_any p A l c W hls hll).mono fun e W' ⟨he, hb⟩ => ⟨_, he, ?_⟩
  exact law_post (tb := 4) rfl rfl Try.underlying4 (by rw [Try.params4]; decide +kernel) hW' rfl hb

set_option maxRecDepth 100000 in
theorem shapePlays_lifted (os : Os) (started : os.Started) (H : Type) (enc : TypeId × Value → H) :
    ReturnsInHanded {} Try.checked os 4 .any (Rows.shapePlaysSpec.pre6 enc Try.prog Try.f4 Rows.shapePlaysRow.domain false) (Rows.shapePlaysSpec.post enc Try.prog Try.f4 false true false false) := by
  refine returnsInHanded_of_change (C := Try.checked) Try.own started (by kernel_rfl) Try.func4
    (ChangeSpec.witness6 (enc := enc) (C := Try.checked) false ⟨#[], #[.int .i64 0, .slice none 0 0], []⟩ 8 (by kernel_rfl) (by kernel_rfl) (by kernel_rfl) (by kernel_rfl)) ?_
  intro W base args ds gs before hval hW _ _
  exact shapePlays_contract H enc W base args ds gs before hval hW

theorem shapePlays_holds : Rows.ShapePlaysSaid :=
  OpenClaim.holds_of_wide 4 Try.f4 rfl rfl rfl rfl rfl rfl rfl ⟨rfl, rfl, rfl, rfl, rfl⟩ rfl rfl rfl rfl rfl (by kernel_rfl) Try.func4 (by kernel_rfl)
    (of_decide_eq_true (by kernel_rfl)) (by unfold Func.isWrapper; first | (rw [if_pos (by decide +kernel)]; kernel_rfl) | (rw [if_neg (by decide +kernel)]; exact ⟨rfl, rfl⟩))
    (fun os started H enc _ => shapePlays_lifted os started H enc)

#print axioms shapePlays_holds
end Go.Proofs.Ytcalpfpbafnckaa
