/- NoticePlays answers true at every list of acts: every call of the board answers as the document says, and the whole board behind it is the document's. No condition. -/
import Derived.Test.YtdfklbjkcednhaaO
import Derived.Test.YtdfklbjkcednhaaX5
namespace Go.Proofs.Ytdfklbjkcednhaa
open Go.ChangeShapes Go.WideShapes Go.ChangeAt Go.RowKit Go.Joins

set_option maxRecDepth 100000 in
set_option maxHeartbeats 1000000 in
theorem noticePlays_contract (H : Type) (enc : TypeId × Value → H) (W : World) (base : Nat) (args : Array Value) (ds gs : List (DataW H)) (before : List MemPlace)
    (hval : ∀ (j : Nat) t v, Try.f4.params[j]? = some t → args[j]? = some v → Value.okWide Try.prog W .any base t v)
    (hW : DataW.Whole enc Try.prog Try.f4.params.toList Rows.noticePlaysSpec.vars false W args.toList ds gs before) :
    Calls Try.prog 4 args W fun e W' => ∃ v, e = .returned v ∧ Rows.noticePlaysSpec.post enc Try.prog Try.f4 false true false false W args v W' := by
  have hW' := hW
  have hlt := hW.lt
  obtain ⟨p, q, hA0, hV, rfl, hfz, hnd⟩ := hW
  have hA : DataW.TrodAll enc Try.prog W 0 (fun _ => true) true Try.f4.params.toList args.toList ds p := hA0
  rw [Try.params4] at hA hval
  obtain ⟨v0, d0, rfl, rfl, h0⟩ := trodAll_one hA
  obtain ⟨rfl, rfl⟩ := trodVars_none hV
  obtain ⟨A, l, c, rfl, hc_l, hm_l, h_l, g_l⟩ := open_rows (enc := eA) dec_actOk Try.underlying22 (show Try.prog.cellsOf 35 = 5 by kernel_rfl) (by omega) (hval 0 22 v0 rfl rfl) h0 dec_act
  have hl_l : l.length ≤ 9223372036854775807 := by simp only [maxLen] at hm_l; omega
  clear hA0 hval
  refine (plays_any A l c W h_l hl_l).mono fun e W' ⟨he, hb⟩ => ⟨_, he, ?_⟩
  exact law_post (tb := 4) rfl rfl Try.underlying4 (by rw [Try.params4]; decide +kernel) hW' rfl hb

set_option maxRecDepth 100000 in
theorem noticePlays_lifted (os : Os) (started : os.Started) (H : Type) (enc : TypeId × Value → H) :
    ReturnsInHanded {} Try.checked os 4 .any (Rows.noticePlaysSpec.pre6 enc Try.prog Try.f4 Rows.noticePlaysRow.domain false) (Rows.noticePlaysSpec.post enc Try.prog Try.f4 false true false false) := by
  refine returnsInHanded_of_change (C := Try.checked) Try.own started (by kernel_rfl) Try.func4
    (ChangeSpec.witness6 (enc := enc) (C := Try.checked) false ⟨#[], #[.slice none 0 0], []⟩ 8 (by kernel_rfl) (by kernel_rfl) (by kernel_rfl) (by kernel_rfl)) ?_
  intro W base args ds gs before hval hW _ _
  exact noticePlays_contract H enc W base args ds gs before hval hW

theorem noticePlays_holds : Rows.NoticePlaysSaid :=
  OpenClaim.holds_of_wide 4 Try.f4 rfl rfl rfl rfl rfl rfl rfl ⟨rfl, rfl, rfl, rfl, rfl⟩ rfl rfl rfl rfl rfl (by kernel_rfl) Try.func4 (by kernel_rfl)
    (of_decide_eq_true (by kernel_rfl)) (by unfold Func.isWrapper; first | (rw [if_pos (by decide +kernel)]; kernel_rfl) | (rw [if_neg (by decide +kernel)]; exact ⟨rfl, rfl⟩))
    (fun os started H enc _ => noticePlays_lifted os started H enc)

#print axioms noticePlays_holds
end Go.Proofs.Ytdfklbjkcednhaa
