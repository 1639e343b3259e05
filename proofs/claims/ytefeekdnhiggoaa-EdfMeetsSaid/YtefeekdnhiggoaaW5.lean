/- The statement EdfRuns, walked. -/
import Derived.Test.YtefeekdnhiggoaaW4
namespace Go.Proofs.Ytefeekdnhiggoaa
open Go.RowKit

theorem run_sl (A : Option Addr) (js : List Job) (c : Nat) (T : Nat) (w : World) (hs : Sl eJ 3 w A js) (hr : rightJ js = true) (hl : js.length ≤ 32) (hT : T ≤ 2048) :
    Calls Try.prog 9 #[.slice A js.length c, .int .i64 T] w (RetSl eI 1 3 (runTo js T).2 w) :=
  (run_yes A js c T w hs hr hl hT).mono fun e w' ⟨v, he, ho, hb⟩ => by
    have hlen := (run_len js T).2
    generalize (runTo js T).2 = xs at *
    subst hlen
    obtain ⟨A', c', rfl, _⟩ := own_sl eI_len ho
    exact ⟨A', c', he, ho, hb⟩
theorem to_sl (A : Option Addr) (js : List Job) (c : Nat) (w : World) (hs : Sl eJ 3 w A js) (hl : js.length ≤ 40) :
    Calls Try.prog 8 #[.slice A js.length c] w (RetSl eJ 3 44 js w) :=
  (to_any A js c w hs hl).mono fun e w' ⟨v, he, ho, hb⟩ => by
    obtain ⟨A', c', rfl, _⟩ := own_sl eJ_len ho
    exact ⟨A', c', he, ho, hb⟩
theorem eJ_ok : EncOk eJ 3 := ⟨eJ_len, fun x u hu => by simp [eJ] at hu; rcases hu with rfl | rfl | rfl <;> rfl⟩

theorem sl_block {α : Type} {enc : α → List Value} {sz : Nat} (hc : EncOk enc sz) (w : World) (xs : List α) (cs : Array Value) (t : TypeId) (h : cs.toList = xs.flatMap enc) : Sl enc sz (w.alloc (.cells cs t)) (some ⟨w.heap.size, 0, none⟩) xs := fun _ => by
  refine ⟨w.heap.size, 0, rfl, fun i x j u hx hu => ?_⟩
  have hj : j < sz := by rw [← hc.len x]; exact (List.getElem?_eq_some_iff.1 hu).1
  have h1 := cell_of_row (w.alloc (.cells cs t)) w.heap.size (i * sz + j) cs t (0, 0) (heap_alloc_new w _)
  rw [Nat.zero_add, h1, ← Array.getElem?_toList, h, flat_at hc.len xs i x j hx hj, hu]

set_option maxHeartbeats 1000000 in
theorem awake_any (w : World) :
    Calls Try.prog 7 #[] w fun e w' => e = .returned (.bool true) ∧ Below w.heap.size w w' := by
  have hrun : (runTo [⟨0, 4, 2⟩, ⟨1, 3, 2⟩] 4).2 = [0, 1, 1, 0] := by decide
  have HR := Lib.hid hrun
  clear hrun
  have hsl := sl_block eJ_ok w [⟨0, 4, 2⟩, ⟨1, 3, 2⟩] #[.int .i64 0, .int .i64 4, .int .i64 2, .int .i64 1, .int .i64 3, .int .i64 2] 44 rfl
  go_enter Try.func7, Try.ntmps7
  go_wp2_with (go_at_call 9; refine (run_sl _ [⟨0, 4, 2⟩, ⟨1, 3, 2⟩] _ 4 _ hsl (by decide) (by decide) (by decide)).mono ?_; rintro e w2 ⟨A, c, rfl, own, hb⟩; rw [HR.out] at own ⊢)
  have hs1 := own.sl eI_ok
  have hs2 := sl_block eI_ok w2 [0, 1, 1, 0] #[.int .i64 0, .int .i64 1, .int .i64 1, .int .i64 0] 3 rfl
  have hBw := bstep (below1 w (Obj.cells #[.int .i64 0, .int .i64 4, .int .i64 2, .int .i64 1, .int .i64 3, .int .i64 2] 44)) (Nat.le_refl _) hb
  refine (same_any A _ [0, 1, 1, 0] [0, 1, 1, 0] c 4 _ (hs1.alloc _) hs2 (by decide) (by decide)).mono ?_
  rintro e w3 ⟨rfl, hb3⟩
  go_wp2
  go_ret
  exact ⟨ret_bool (by decide), bstep (hBw.alloc hBw.size _) (Nat.le_refl _) hb3⟩

/-! EdfRuns -/
set_option maxHeartbeats 2000000 in
theorem runs_far (A : Option Addr) (js : List Job) (c : Nat) (t : Int) (w : World) (hl : js.length ≤ 9223372036854775807) (h : 40 < js.length ∨ (js.length ≤ 40 ∧ 400 < t ∧ t ≤ 2048)) :
    Calls Try.prog 3 #[.slice A js.length c, .int .i64 t] w fun e w' => e = .returned (.bool true) ∧ Below w.heap.size w w' := by
  rcases h with h | ⟨h, h1, h2⟩
  all_goals
    go_enter Try.func3, Try.ntmps3
    go_wp2_with (go_at_call 7; refine (awake_any _).mono ?_; rintro e w2 ⟨rfl, hb⟩)
    go_ret
    exact ⟨rfl, hb⟩

set_option maxHeartbeats 2000000 in
theorem runs_no (A : Option Addr) (js : List Job) (c : Nat) (t : Int) (w : World) (hs : Sl eJ 3 w A js) (hl : js.length ≤ 40) (ht : t ≤ 400 ∨ 2048 < t) (h : rightJ js = false ∨ (rightJ js = true ∧ (t < 0 ∨ 2048 < t))) :
    Calls Try.prog 3 #[.slice A js.length c, .int .i64 t] w fun e w' => e = .returned (.bool true) ∧ Below w.heap.size w w' := by
  have HH := Lib.hid h
  have hfin : ∀ p : Prop, p → p := fun _ h => h
  clear hfin
  rcases ht with ht | ht <;> rcases h with h | ⟨h, h2 | h2⟩
  all_goals first | (exfalso; omega) | skip
  all_goals
    go_enter Try.func3, Try.ntmps3
    go_wp2_with (first | (go_at_call 8; refine (to_sl _ _ _ _ hs hl).mono ?_; rintro e w2 ⟨X, cx, rfl, own, hB⟩) | (go_at_call 9; refine (run_no _ _ _ _ _ (own.sl eJ_ok) (by omega) HH.out).mono ?_; rintro e w3 ⟨rfl, hb⟩; replace own := own.keep hb; replace hB := bstep hB (Nat.le_refl _) hb; clear hb) | (go_at_call 10; refine (right_any _ _ _ _ (own.sl eJ_ok) (by omega)).mono ?_; rintro e w3 ⟨rfl, hb⟩; replace own := own.keep hb; replace hB := bstep hB (Nat.le_refl _) hb; clear hb) | (go_at_call 11; refine (refRight_any _ _ _ _ (hs.keep hB) (by omega)).mono ?_; rintro e w3 ⟨rfl, hb⟩; replace own := own.keep hb; replace hB := bstep hB (Nat.le_refl _) hb; clear hb) | (go_at_call 12; refine (end_any _ _ _ _ (own.sl eJ_ok) (by omega)).mono ?_; rintro e w3 ⟨rfl, hb⟩; replace own := own.keep hb; replace hB := bstep hB (Nat.le_refl _) hb; clear hb) | (go_at_call 13; refine (refEnd_any _ _ _ _ (hs.keep hB) (by omega)).mono ?_; rintro e w3 ⟨rfl, rfl⟩) | (go_at_call 7; refine (awake_any _).mono ?_; rintro e w3 ⟨rfl, hb⟩; replace hB := bstep hB (Nat.le_refl _) hb; clear hb))
    go_ret
    exact ⟨rfl, hB⟩

theorem sameL_refl (a : List Int) : sameL a a = true := by simp [sameL]

set_option maxHeartbeats 4000000 in
theorem runs_yes (A : Option Addr) (js : List Job) (c : Nat) (T : Nat) (w : World) (hs : Sl eJ 3 w A js) (hr : rightJ js = true) (hl : js.length ≤ 32) (hT : T ≤ 400) (hok : ∀ j ∈ js, okJ j = true)
    (heq : fillAll js T (byDeadTo js js.length) js.length = (runTo js T).2) :
    Calls Try.prog 3 #[.slice A js.length c, .int .i64 T] w fun e w' => e = .returned (.bool true) ∧ Below w.heap.size w w' := by
  have HE := Lib.hid heq
  have HLN := Lib.hid (run_len js T).2
  have hsm := sameL_refl (runTo js T).2
  clear heq
  go_enter Try.func3, Try.ntmps3
  go_wp2_with (first | (go_at_call 8; refine (to_sl _ _ _ _ hs (by omega)).mono ?_; rintro e w2 ⟨X, cx, rfl, own, hB⟩) | (go_at_call 9; refine (run_sl _ _ _ T _ (own.sl eJ_ok) hr hl (by omega)).mono ?_; rintro e w3 ⟨G, cg, rfl, ownG, hb⟩; replace own := own.keep hb; replace hB := bstep hB (Nat.le_refl _) hb; clear hb) | (go_at_call 10; refine (right_any _ _ _ _ (own.sl eJ_ok) (by omega)).mono ?_; rintro e w3 ⟨rfl, hb⟩; replace own := own.keep hb; replace ownG := ownG.keep hb; replace hB := bstep hB (Nat.le_refl _) hb; clear hb) | (go_at_call 11; refine (refRight_any _ _ _ _ (hs.keep hB) (by omega)).mono ?_; rintro e w3 ⟨rfl, hb⟩; replace own := own.keep hb; replace ownG := ownG.keep hb; replace hB := bstep hB (Nat.le_refl _) hb; clear hb) | (go_at_call 12; refine (end_any _ _ _ _ (own.sl eJ_ok) (by omega)).mono ?_; rintro e w3 ⟨rfl, hb⟩; replace own := own.keep hb; replace ownG := ownG.keep hb; replace hB := bstep hB (Nat.le_refl _) hb; clear hb) | (go_at_call 13; refine (refEnd_any _ _ _ _ (hs.keep hB) (by omega)).mono ?_; rintro e w3 ⟨rfl, rfl⟩) | (go_at_call 15; refine (refRun_any _ _ _ T _ (hs.keep hB) hl (by omega) hok).mono ?_; rintro e w3 ⟨F, cf, rfl, ownF, hb⟩; rw [HE.out] at ownF ⊢; replace ownG := ownG.keep hb; replace hB := bstep hB (Nat.le_refl _) hb; clear hb) | (go_at_call 14; refine (same_any _ _ _ _ _ _ _ (ownG.sl eI_ok) (ownF.sl eI_ok) (by rw [HLN.out]; omega) (by rw [HLN.out]; omega)).mono ?_; rintro e w3 ⟨rfl, hb⟩; replace hB := bstep hB (Nat.le_refl _) hb; clear hb) | (go_at_call 7; refine (awake_any _).mono ?_; rintro e w3 ⟨rfl, hb⟩; replace hB := bstep hB (Nat.le_refl _) hb; clear hb))
  go_ret
  exact ⟨rfl, hB⟩
end Go.Proofs.Ytefeekdnhiggoaa
