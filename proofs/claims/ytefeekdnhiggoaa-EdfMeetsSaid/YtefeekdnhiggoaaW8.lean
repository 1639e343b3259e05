/- Walks: Feasible, few; the statement EdfOptimal. -/
import Derived.Test.YtefeekdnhiggoaaW7
namespace Go.Proofs.Ytefeekdnhiggoaa
open Go.RowKit

theorem end_le (l : List Job) (m : Int) (h0 : 0 ≤ m) (h : ∀ j ∈ l, j.dead ≤ m) : endJ l ≤ m := by
  have key : ∀ (l : List Job) (e : Int), e ≤ m → (∀ j ∈ l, j.dead ≤ m) → l.foldl (fun e j => max e j.dead) e ≤ m := fun l => by
    induction l with
    | nil => intro e he _; exact he
    | cons x xs ih =>
      intro e he hh
      simp only [List.foldl_cons]
      exact ih _ (by have := hh x (List.mem_cons_self ..); omega) (fun j hj => hh j (List.mem_cons_of_mem _ hj))
  exact key l 0 h0 h
theorem right_parts {l : List Job} (h : rightJ l = true) : l.length ≤ 32 ∧ ∀ j ∈ l, okJ j = true := by
  unfold rightJ at h
  rw [Bool.and_eq_true, decide_eq_true_eq, List.all_eq_true] at h
  exact h
noncomputable def feasB (l : List Job) : Bool := meetsB l (runTo l (endJ l).toNat).2

set_option maxHeartbeats 1000000 in
theorem feas_any (A : Option Addr) (js : List Job) (c : Nat) (w : World) (hs : Sl eJ 3 w A js) (hl : js.length ≤ 40) :
    Calls Try.prog 18 #[.slice A js.length c] w fun e w' => e = .returned (.bool (feasB js)) ∧ Below w.heap.size w w' := by
  cases hr : rightJ js
  · have HM : feasB js = false := by unfold feasB meetsB; rw [hr]; rfl
    rw [HM]
    clear HM
    go_enter Try.func18, Try.ntmps18
    go_wp2_with (go_at_call 10; refine (right_any _ _ _ _ hs (by omega)).mono ?_; rintro e w2 ⟨rfl, hB⟩; rw [hr])
    go_ret
    exact ⟨rfl, hB⟩
  · have hp := right_parts hr
    have h1 : endJ js ≤ 1024 := end_le js 1024 (by omega) (fun j hj => (okJ_t (hp.2 j hj)).2.2.1)
    have h0 := end_bd js
    obtain ⟨T, hT⟩ := Int.eq_ofNat_of_zero_le h0
    have hl2 := hp.1
    have hTl : T ≤ 1024 := by omega
    have hr2 := Lib.hid hr
    have hRL := (run_len js T).2
    have hRL2 : (runTo js T).2.length ≤ 100000 := by omega
    clear hRL
    have HE : Hid (feasB js = meetsB js (runTo js T).2) := by unfold Hid feasB; rw [hT]; rfl
    have HRun := Lib.hid (fun W h => run_sl A js c T W h hr hl2 (by omega))
    generalize (runTo js T).2 = s at *
    go_enter Try.func18, Try.ntmps18
    go_wp2_with (first | (go_at_call 10; refine (right_any _ _ _ _ hs (by omega)).mono ?_; rintro e w2 ⟨rfl, hB⟩; rw [hr]) | (go_at_call 12; refine (end_any _ _ _ _ (hs.keep hB) (by omega)).mono ?_; rintro e w3 ⟨rfl, hb⟩; replace hB := bstep hB (Nat.le_refl _) hb; clear hb; rw [hT]) | (go_at_call 9; refine (HRun.out _ (hs.keep hB)).mono ?_; rintro e w4 ⟨A4, c4, rfl, own4, hb⟩; replace hB := bstep hB (Nat.le_refl _) hb; clear hb; have sl4 := own4.sl eI_ok) | (go_at_call 20; refine (meets_any _ _ _ _ _ _ _ (hs.keep hB) sl4 (by omega) hRL2).mono ?_; rintro e w5 ⟨rfl, hb⟩; replace hB := bstep hB (Nat.le_refl _) hb; clear hb))
    go_ret
    rw [HE.out]
    exact ⟨by simp, hB⟩

def fewB (l : List Job) : Bool := decide (l.length ≤ 40) && (!rightJ l || decide (endJ l ≤ 200))
set_option maxHeartbeats 1000000 in
theorem few_any (A : Option Addr) (js : List Job) (c : Nat) (w : World) (hs : Sl eJ 3 w A js) (hl : js.length ≤ 9223372036854775807) :
    Calls Try.prog 16 #[.slice A js.length c] w fun e w' => e = .returned (.bool (fewB js)) ∧ Below w.heap.size w w' := by
  by_cases h40 : js.length ≤ 40
  · cases hr : rightJ js
    · have HM : fewB js = true := by unfold fewB; rw [hr]; simp [h40]
      rw [HM]
      go_enter Try.func16, Try.ntmps16
      go_wp2_with (go_at_call 11; refine (refRight_any _ _ _ _ hs (by omega)).mono ?_; rintro e w2 ⟨rfl, hB⟩; rw [hr])
      go_ret
      exact ⟨rfl, hB⟩
    · have HM : fewB js = decide (endJ js ≤ 200) := by unfold fewB; rw [hr]; simp [h40]
      rw [HM]
      have h0 := end_bd js
      generalize he : endJ js = E at *
      go_enter Try.func16, Try.ntmps16
      go_wp2_with (first | (go_at_call 11; refine (refRight_any _ _ _ _ hs (by omega)).mono ?_; rintro e w2 ⟨rfl, hB⟩; rw [hr]) | (go_at_call 13; refine (refEnd_any _ _ _ _ (hs.keep hB) (by omega)).mono ?_; rintro e w3 ⟨rfl, rfl⟩; rw [he]))
      go_ret
      exact ⟨by simp, hB⟩
  · have HM : fewB js = false := by unfold fewB; simp [h40]
    rw [HM]
    go_enter Try.func16, Try.ntmps16
    go_wp2
    go_ret
    exact ⟨rfl, Below.refl _ _⟩

theorem few_t {l : List Job} (h : fewB l = true) : l.length ≤ 40 ∧ (rightJ l = true → endJ l ≤ 200) := by
  unfold fewB at h
  rw [Bool.and_eq_true, decide_eq_true_eq, Bool.or_eq_true] at h
  refine ⟨h.1, fun hr => ?_⟩
  rcases h.2 with h | h
  · rw [hr] at h; cases h
  · exact of_decide_eq_true h

theorem optimal_law (js : List Job) (s : List Int) (h : meetsB js s = true) : feasB js = true := by
  obtain ⟨hr, hm⟩ := meetsB_t h
  exact meetsB_yes hr (noOver_run js (right_parts hr).2 (end_bd js) (meets_noOver js s hm))

set_option maxHeartbeats 2000000 in
theorem optimal_any (A B : Option Addr) (js : List Job) (s : List Int) (c d : Nat) (w : World) (hs : Sl eJ 3 w A js) (ht : Sl eI 1 w B s) (hl : js.length ≤ 9223372036854775807) (hl2 : s.length ≤ 9223372036854775807) :
    Calls Try.prog 4 #[.slice A js.length c, .slice B s.length d] w fun e w' => e = .returned (.bool true) ∧ Below w.heap.size w w' := by
  cases hf : fewB js
  · go_enter Try.func4, Try.ntmps4
    go_wp2_with (first | (go_at_call 16; refine (few_any _ _ _ _ hs hl).mono ?_; rintro e w2 ⟨rfl, hB⟩; rw [hf]) | (go_at_call 7; refine (awake_any _).mono ?_; rintro e w3 ⟨rfl, hb⟩; replace hB := bstep hB (Nat.le_refl _) hb; clear hb))
    go_ret
    exact ⟨rfl, hB⟩
  · have hft := few_t hf
    by_cases h5 : 500 < s.length
    · go_enter Try.func4, Try.ntmps4
      go_wp2_with (first | (go_at_call 16; refine (few_any _ _ _ _ hs hl).mono ?_; rintro e w2 ⟨rfl, hB⟩; rw [hf]) | (go_at_call 7; refine (awake_any _).mono ?_; rintro e w3 ⟨rfl, hb⟩; replace hB := bstep hB (Nat.le_refl _) hb; clear hb))
      go_ret
      exact ⟨rfl, hB⟩
    · have h40 := hft.1
      clear hft
      cases hm : meetsB js s
      · go_enter Try.func4, Try.ntmps4
        go_wp2_with (first | (go_at_call 16; refine (few_any _ _ _ _ hs hl).mono ?_; rintro e w2 ⟨rfl, hB⟩; rw [hf]) | (go_at_call 17; refine (refMeets_any _ _ _ _ _ _ _ (hs.keep hB) (ht.keep hB) h40 (by omega)).mono ?_; rintro e w3 ⟨rfl, hb⟩; replace hB := bstep hB (Nat.le_refl _) hb; clear hb; rw [hm]) | (go_at_call 7; refine (awake_any _).mono ?_; rintro e w3 ⟨rfl, hb⟩; replace hB := bstep hB (Nat.le_refl _) hb; clear hb))
        go_ret
        exact ⟨rfl, hB⟩
      · have hfe := optimal_law js s hm
        go_enter Try.func4, Try.ntmps4
        go_wp2_with (first | (go_at_call 16; refine (few_any _ _ _ _ hs hl).mono ?_; rintro e w2 ⟨rfl, hB⟩; rw [hf]) | (go_at_call 17; refine (refMeets_any _ _ _ _ _ _ _ (hs.keep hB) (ht.keep hB) h40 (by omega)).mono ?_; rintro e w3 ⟨rfl, hb⟩; replace hB := bstep hB (Nat.le_refl _) hb; clear hb; rw [hm]) | (go_at_call 8; refine (to_sl _ _ _ _ (hs.keep hB) h40).mono ?_; rintro e w4 ⟨A4, c4, rfl, own4, hb⟩; replace hB := bstep hB (Nat.le_refl _) hb; clear hb; have sl4 := own4.sl eJ_ok) | (go_at_call 18; refine (feas_any _ _ _ _ sl4 h40).mono ?_; rintro e w5 ⟨rfl, hb⟩; replace hB := bstep hB (Nat.le_refl _) hb; clear hb; rw [hfe]) | (go_at_call 7; refine (awake_any _).mono ?_; rintro e w3 ⟨rfl, hb⟩; replace hB := bstep hB (Nat.le_refl _) hb; clear hb))
        go_ret
        exact ⟨rfl, hB⟩
end Go.Proofs.Ytefeekdnhiggoaa
