/- The statement EdfMeets, walked. -/
import Derived.Test.YtefeekdnhiggoaaW11
import Derived.Test.YtefeekdnhiggoaaM1
namespace Go.Proofs.Ytefeekdnhiggoaa
open Go.RowKit

set_option maxHeartbeats 2000000 in
theorem edfMeets_far (A B : Option Addr) (js : List Job) (s : List Int) (c d : Nat) (f t : Int) (w : World) (hs : Sl eJ 3 w A js) (hl : js.length ≤ 9223372036854775807) (hl2 : s.length ≤ 9223372036854775807) (h : fewB js = false ∨ (fewB js = true ∧ 500 < s.length)) :
    Calls Try.prog 6 #[.slice A js.length c, .slice B s.length d, .int .i64 f, .int .i64 t] w fun e w' => e = .returned (.bool true) ∧ Below w.heap.size w w' := by
  rcases h with hf | ⟨hf, h5⟩
  all_goals
    go_enter Try.func6, Try.ntmps6
    go_wp2_with (first | (go_at_call 16; refine (few_any _ _ _ _ hs hl).mono ?_; rintro e w2 ⟨rfl, hB⟩; rw [hf]) | (go_at_call 7; refine (awake_any _).mono ?_; rintro e w3 ⟨rfl, hb⟩; replace hB := bstep hB (Nat.le_refl _) hb; clear hb))
    go_ret
    exact ⟨rfl, hB⟩

set_option maxHeartbeats 2000000 in
theorem edfMeets_no (A B : Option Addr) (js : List Job) (s : List Int) (c d : Nat) (f t : Int) (w : World) (hs : Sl eJ 3 w A js) (ht : Sl eI 1 w B s) (hf : fewB js = true) (h5 : s.length ≤ 500) (hr : rightJ js = false) :
    Calls Try.prog 6 #[.slice A js.length c, .slice B s.length d, .int .i64 f, .int .i64 t] w fun e w' => e = .returned (.bool true) ∧ Below w.heap.size w w' := by
  have h40 := (few_t hf).1
  have hfe : feasB js = false := by unfold feasB meetsB; rw [hr]; rfl
  have hme : meetsB js s = false := by unfold meetsB; rw [hr]; rfl
  go_enter Try.func6, Try.ntmps6
  go_wp2_with (first | (go_at_call 16; refine (few_any _ _ _ _ hs (by omega)).mono ?_; rintro e w2 ⟨rfl, hB⟩; rw [hf]) | (go_at_call 7; refine (awake_any _).mono ?_; rintro e w3 ⟨rfl, hb⟩; replace hB := bstep hB (Nat.le_refl _) hb; clear hb) | (go_at_call 8; refine (to_sl _ _ _ _ (hs.keep hB) h40).mono ?_; rintro e w4 ⟨A4, c4, rfl, own4, hb⟩; replace hB := bstep hB (Nat.le_refl _) hb; clear hb; have sl4 := own4.sl eJ_ok; clear own4) | (go_at_call 20; refine (meets_any _ _ _ _ _ _ _ sl4 (ht.keep hB) h40 (by omega)).mono ?_; rintro e w5 ⟨rfl, hb⟩; replace hB := bstep hB (Nat.le_refl _) hb; replace sl4 := sl4.keep hb; clear hb; rw [hme]) | (go_at_call 17; refine (refMeets_any _ _ _ _ _ _ _ (hs.keep hB) (ht.keep hB) h40 (by omega)).mono ?_; rintro e w5 ⟨rfl, hb⟩; replace hB := bstep hB (Nat.le_refl _) hb; replace sl4 := sl4.keep hb; clear hb; rw [hme]) | (go_at_call 19; refine (over_no _ _ _ _ sl4 h40 hr).mono ?_; rintro e w5 ⟨rfl, hb⟩; replace hB := bstep hB (Nat.le_refl _) hb; replace sl4 := sl4.keep hb; clear hb) | (go_at_call 11; refine (refRight_any _ _ _ _ (hs.keep hB) (by omega)).mono ?_; rintro e w3 ⟨rfl, hb⟩; replace hB := bstep hB (Nat.le_refl _) hb; replace sl4 := sl4.keep hb; clear hb; rw [hr]) | (go_at_call 18; refine (feas_any _ _ _ _ sl4 h40).mono ?_; rintro e w6 ⟨rfl, hb⟩; replace hB := bstep hB (Nat.le_refl _) hb; replace sl4 := sl4.keep hb; clear hb; rw [hfe]) | (go_at_call 21; refine (load_no _ _ _ _ _ _ sl4 h40 hr).mono ?_; rintro e w6 ⟨rfl, hb⟩; replace hB := bstep hB (Nat.le_refl _) hb; replace sl4 := sl4.keep hb; clear hb))
  go_ret
  exact ⟨rfl, hB⟩

set_option maxHeartbeats 4000000 in
theorem edfMeets_yes (A B : Option Addr) (js : List Job) (s : List Int) (c d : Nat) (f t : Int) (w : World) (hs : Sl eJ 3 w A js) (ht : Sl eI 1 w B s) (hf : fewB js = true) (h5 : s.length ≤ 500) (hr : rightJ js = true) :
    Calls Try.prog 6 #[.slice A js.length c, .slice B s.length d, .int .i64 f, .int .i64 t] w fun e w' => e = .returned (.bool true) ∧ Below w.heap.size w w' := by
  have h40 := (few_t hf).1
  have hp := right_parts hr
  have h1 : endJ js ≤ 1024 := end_le js 1024 (by omega) (fun j hj => (okJ_t (hp.2 j hj)).2.2.1)
  obtain ⟨T, hT⟩ := Int.eq_ofNat_of_zero_le (end_bd js)
  have hT2 : T ≤ 1024 := by omega
  have hfe : feasB js = meetsB js (runTo js T).2 := by unfold feasB; rw [hT]; rfl
  have heq := fill_eq_run js T (fun j hj => (okJ_t (hp.2 j hj)).1)
  have hOV := Lib.hid (fun A c W h => over_any A js c T W h hr hp.1 hT hT2 hp.2)
  have hRO := Lib.hid (fun A c W h => refOver_any A js c T W h hr hT hT2)
  have hRR := Lib.hid (fun A c W h => refRun_any A js c T W h hp.1 (by omega) hp.2)
  have hRE := Lib.hid (fun A c W h => refEnd_any A js c W h (show js.length ≤ 9223372036854775807 by omega))
  have hUN := Lib.hid (first_unique js T)
  have hrl : (runTo js T).2.length ≤ 100000 := by rw [(run_len js T).2]; omega
  rw [heq] at hRR
  rw [hT] at hRE
  clear heq hp h1 hT
  generalize (runTo js T).2 = rs at *
  have HL := Lib.hid (fun A c W h => load_any A js c f t W h hr)
  have HRL := Lib.hid (fun A c W h => refLoad_any A js c f t W h hr)
  have HFE := Lib.hid (fun A c W h => feas_any A js c W h h40)
  rw [hfe] at HFE
  clear hfe
  have HM := Lib.hid (fun A c W h h2 => refMeets_any A B js s c d W h h2 h40 (show s.length ≤ 100000 by omega))
  have HM2 := Lib.hid (fun A c W h h2 => meets_any A B js s c d W h h2 h40 (show s.length ≤ 100000 by omega))
  have HM3 := Lib.hid (fun A c B d W h h2 => refMeets_any A B js rs c d W h h2 h40 hrl)
  generalize loadTo js f t js.length = L at *
  generalize meetsB js s = ms at *
  generalize meetsB js rs = mr at *
  go_enter Try.func6, Try.ntmps6
  go_wp2_with (first | (go_at_call 16; (with_reducible refine (few_any _ _ _ _ hs (by omega)).mono ?_); rintro e w2 ⟨rfl, hB⟩; rw [hf]) | (go_at_call 7; (with_reducible refine (awake_any _).mono ?_); rintro e w3 ⟨rfl, hb⟩; replace hB := bstep hB (Nat.le_refl _) hb; clear hb) | (go_at_call 8; (with_reducible refine (to_sl _ _ _ _ (hs.keep hB) h40).mono ?_); rintro e w4 ⟨A4, c4, rfl, own4, hb⟩; replace hB := bstep hB (Nat.le_refl _) hb; clear hb; have sl4 := own4.sl eJ_ok; clear own4) | (go_at_call 20; (with_reducible refine (HM2.out _ _ _ sl4 (ht.keep hB)).mono ?_); rintro e w5 ⟨rfl, hb⟩; replace hB := bstep hB (Nat.le_refl _) hb; replace sl4 := sl4.keep hb; clear hb) | (go_at_call 17; (with_reducible refine (HM.out _ _ _ (hs.keep hB) (ht.keep hB)).mono ?_); rintro e w5 ⟨rfl, hb⟩; replace hB := bstep hB (Nat.le_refl _) hb; replace sl4 := sl4.keep hb; clear hb) | (go_at_call 17; (with_reducible refine (HM3.out _ _ _ _ _ (hs.keep hB) sl7).mono ?_); rintro e w5 ⟨rfl, hb⟩; replace hB := bstep hB (Nat.le_refl _) hb; replace sl4 := sl4.keep hb; clear hb) | (go_at_call 19; (with_reducible refine (hOV.out _ _ _ sl4).mono ?_); rintro e w5 ⟨⟨a, b, ok, rfl, hfo⟩, hb⟩; replace hB := bstep hB (Nat.le_refl _) hb; replace sl4 := sl4.keep hb; clear hb) | (go_at_call 22; (with_reducible refine (hRO.out _ _ _ (hs.keep hB)).mono ?_); rintro e w5 ⟨⟨a', b', ok', rfl, hfo'⟩, rfl⟩; obtain ⟨rfl, rfl, rfl⟩ := hUN.out _ _ _ _ _ _ hfo hfo') | (go_at_call 11; (with_reducible refine (refRight_any _ _ _ _ (hs.keep hB) (by omega)).mono ?_); rintro e w3 ⟨rfl, hb⟩; replace hB := bstep hB (Nat.le_refl _) hb; replace sl4 := sl4.keep hb; clear hb; rw [hr]) | (go_at_call 18; (with_reducible refine (HFE.out _ _ _ sl4).mono ?_); rintro e w6 ⟨rfl, hb⟩; replace hB := bstep hB (Nat.le_refl _) hb; replace sl4 := sl4.keep hb; clear hb) | (go_at_call 13; (with_reducible refine (hRE.out _ _ _ (hs.keep hB)).mono ?_); rintro e w3 ⟨rfl, rfl⟩) | (go_at_call 15; (with_reducible refine (hRR.out _ _ _ (hs.keep hB)).mono ?_); rintro e w7 ⟨A7, c7, rfl, own7, hb⟩; replace hB := bstep hB (Nat.le_refl _) hb; replace sl4 := sl4.keep hb; clear hb; have sl7 := own7.sl eI_ok; clear own7) | (go_at_call 21; (with_reducible refine (HL.out _ _ _ sl4).mono ?_); rintro e w6 ⟨rfl, hb⟩; replace hB := bstep hB (Nat.le_refl _) hb; replace sl4 := sl4.keep hb; clear hb) | (go_at_call 23; (with_reducible refine (HRL.out _ _ _ (hs.keep hB)).mono ?_); rintro e w6 ⟨rfl, rfl⟩))
  go_ret
  exact ⟨by simp, hB⟩

theorem edfMeets_all (A B : Option Addr) (js : List Job) (s : List Int) (c d : Nat) (f t : Int) (w : World) (hs : Sl eJ 3 w A js) (ht : Sl eI 1 w B s) (hl : js.length ≤ 9223372036854775807) (hl2 : s.length ≤ 9223372036854775807) :
    Calls Try.prog 6 #[.slice A js.length c, .slice B s.length d, .int .i64 f, .int .i64 t] w fun e w' => e = .returned (.bool true) ∧ Below w.heap.size w w' := by
  cases hf : fewB js
  · exact edfMeets_far A B js s c d f t w hs hl hl2 (.inl hf)
  · by_cases h5 : 500 < s.length
    · exact edfMeets_far A B js s c d f t w hs hl hl2 (.inr ⟨hf, h5⟩)
    · cases hr : rightJ js
      · exact edfMeets_no A B js s c d f t w hs ht hf (by omega) hr
      · exact edfMeets_yes A B js s c d f t w hs ht hf (by omega) hr
end Go.Proofs.Ytefeekdnhiggoaa
