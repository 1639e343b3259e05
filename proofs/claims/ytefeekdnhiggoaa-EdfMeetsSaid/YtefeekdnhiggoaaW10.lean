/- The statement EdfDemand, walked. -/
import Derived.Test.YtefeekdnhiggoaaW9
namespace Go.Proofs.Ytefeekdnhiggoaa
open Go.RowKit

theorem feas_over (js : List Job) (T : Nat) (hr : rightJ js = true) (hT : endJ js = (T : Int)) (a b : Int) (ok : Bool) (h : FirstOver js T a b ok) : feasB js = !ok := by
  have h1 := first_noOver js T hT a b ok h
  cases ok
  · exact meetsB_yes hr (noOver_run js (right_parts hr).2 (end_bd js) (h1.1 rfl))
  · cases hf : feasB js
    · rfl
    · have := h1.2 (meets_noOver js _ (meetsB_t hf).2)
      cases this

set_option maxHeartbeats 2000000 in
theorem demand_any (A : Option Addr) (js : List Job) (c : Nat) (w : World) (hs : Sl eJ 3 w A js) (hl : js.length ≤ 9223372036854775807) :
    Calls Try.prog 5 #[.slice A js.length c] w fun e w' => e = .returned (.bool true) ∧ Below w.heap.size w w' := by
  cases hf : fewB js
  · go_enter Try.func5, Try.ntmps5
    go_wp2_with (first | (go_at_call 16; refine (few_any _ _ _ _ hs hl).mono ?_; rintro e w2 ⟨rfl, hB⟩; rw [hf]) | (go_at_call 7; refine (awake_any _).mono ?_; rintro e w3 ⟨rfl, hb⟩; replace hB := bstep hB (Nat.le_refl _) hb; clear hb))
    go_ret
    exact ⟨rfl, hB⟩
  · have h40 := (few_t hf).1
    cases hr : rightJ js
    · go_enter Try.func5, Try.ntmps5
      go_wp2_with (first | (go_at_call 16; refine (few_any _ _ _ _ hs hl).mono ?_; rintro e w2 ⟨rfl, hB⟩; rw [hf]) | (go_at_call 11; refine (refRight_any _ _ _ _ (hs.keep hB) hl).mono ?_; rintro e w3 ⟨rfl, hb⟩; replace hB := bstep hB (Nat.le_refl _) hb; clear hb; rw [hr]) | (go_at_call 7; refine (awake_any _).mono ?_; rintro e w3 ⟨rfl, hb⟩; replace hB := bstep hB (Nat.le_refl _) hb; clear hb))
      go_ret
      exact ⟨rfl, hB⟩
    · have hp := right_parts hr
      have h1 : endJ js ≤ 1024 := end_le js 1024 (by omega) (fun j hj => (okJ_t (hp.2 j hj)).2.2.1)
      have h0 := end_bd js
      obtain ⟨T, hT⟩ := Int.eq_ofNat_of_zero_le h0
      have hT2 : T ≤ 1024 := by omega
      have hOV := Lib.hid (fun A c W h => over_any A js c T W h hr hp.1 hT hT2 hp.2)
      have hFO := Lib.hid (feas_over js T hr hT)
      clear h0 h1 hp
      have HT := Lib.hid hT
      clear hT
      go_enter Try.func5, Try.ntmps5
      go_wp2_with (first | (go_at_call 16; refine (few_any _ _ _ _ hs hl).mono ?_; rintro e w2 ⟨rfl, hB⟩; rw [hf]) | (go_at_call 11; refine (refRight_any _ _ _ _ (hs.keep hB) hl).mono ?_; rintro e w3 ⟨rfl, hb⟩; replace hB := bstep hB (Nat.le_refl _) hb; clear hb; rw [hr]) | (go_at_call 8; refine (to_sl _ _ _ _ (hs.keep hB) h40).mono ?_; rintro e w4 ⟨A4, c4, rfl, own4, hb⟩; replace hB := bstep hB (Nat.le_refl _) hb; clear hb; have sl4 := own4.sl eJ_ok; clear own4) | (go_at_call 19; refine (hOV.out _ _ _ sl4).mono ?_; rintro e w5 ⟨⟨a, b, ok, rfl, hfo⟩, hb⟩; replace hB := bstep hB (Nat.le_refl _) hb; clear hb sl4; have hfe := hFO.out a b ok hfo) | (go_at_call 18; refine (feas_any _ _ _ _ sl4 h40).mono ?_; rintro e w6 ⟨rfl, hb⟩; replace hB := bstep hB (Nat.le_refl _) hb; clear hb; rw [hfe]) | (go_at_call 7; refine (awake_any _).mono ?_; rintro e w7 ⟨rfl, hb⟩; replace hB := bstep hB (Nat.le_refl _) hb; clear hb))
      go_ret
      exact ⟨rfl, hB⟩
end Go.Proofs.Ytefeekdnhiggoaa
