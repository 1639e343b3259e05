/- Walks over package frames: Free, Read, Write. -/
import Derived.Test.YtjmonplgabhceaaW1
namespace Go.Proofs.Ytjmonplgabhceaa
open Go.RowKit

def byteE (s : FrS) (i a : Int) : Int := if takenF s i = false then 6 else if a < 0 ∨ 15 < a then 1 else 0
set_option maxHeartbeats 1000000 in
theorem byteAt_any (s : FrS) (g : Nat) (i a : Int) (w : World) (h : Fm w g s) : Calls Try.prog 19 #[.pointer (some ⟨g, 0, none⟩), .int .i64 i, .int .i64 a] w fun e w' => e = .returned (.int .i64 (byteE s i a)) ∧ w = w' := by
  have H := Lib.hid (taken_any s g i w h)
  unfold byteE
  cases ht : takenF s i
  · rw [ht] at H
    simp only [if_true]
    go_enter Try.func19, Try.ntmps19
    go_wp2_with fail
    refine H.out.mono ?_
    rintro e w2 ⟨rfl, rfl⟩
    go_wp2_with fail
    go_ret
    exact ⟨rfl, rfl⟩
  · rw [ht] at H
    simp only [Bool.true_eq_false, if_false]
    by_cases h0 : a < 0
    · rw [if_pos (.inl h0)]
      go_enter Try.func19, Try.ntmps19
      go_wp2_with fail
      refine H.out.mono ?_
      rintro e w2 ⟨rfl, rfl⟩
      go_wp2_with fail
      go_ret
      exact ⟨rfl, rfl⟩
    · by_cases h1 : 15 < a
      · rw [if_pos (.inr h1)]
        have h2 : (16 : Int) ≤ a := by omega
        go_enter Try.func19, Try.ntmps19
        go_wp2_with fail
        refine H.out.mono ?_
        rintro e w2 ⟨rfl, rfl⟩
        go_wp2_with fail
        go_ret
        exact ⟨rfl, rfl⟩
      · rw [if_neg (by omega)]
        have h2 : ¬ (16 : Int) ≤ a := by omega
        go_enter Try.func19, Try.ntmps19
        go_wp2_with fail
        refine H.out.mono ?_
        rintro e w2 ⟨rfl, rfl⟩
        go_wp2_with fail
        go_ret
        exact ⟨rfl, rfl⟩
theorem takenF_t {s : FrS} {i : Int} (h : takenF s i = true) : ∃ k : Nat, i = k ∧ k < s.n := by
  unfold takenF at h
  rw [Bool.and_eq_true] at h
  exact hasF_t h.1
theorem byteE_0 {s : FrS} {i a : Int} (h : byteE s i a = 0) : ∃ k m : Nat, i = k ∧ a = m ∧ k < s.n ∧ m < 16 := by
  unfold byteE at h
  cases ht : takenF s i
  · rw [ht] at h; simp at h
  · rw [ht] at h
    simp only [Bool.true_eq_false, if_false] at h
    split at h
    · omega
    · obtain ⟨k, rfl, hk⟩ := takenF_t ht
      obtain ⟨m, rfl⟩ := Int.eq_ofNat_of_zero_le (show 0 ≤ a by omega)
      exact ⟨k, m, rfl, rfl, hk, by omega⟩
def byteV (s : FrS) (i a : Int) : Int := if byteE s i a = 0 then (s.B[i.toNat * 16 + a.toNat]?).getD 0 else 0
set_option maxHeartbeats 1000000 in
theorem read_any (s : FrS) (g : Nat) (i a : Int) (w : World) (h : Fm w g s) : Calls Try.prog 9 #[.pointer (some ⟨g, 0, none⟩), .int .i64 i, .int .i64 a] w fun e w' => e = .returned (.tuple #[.int .u8 (byteV s i a), .int .i64 (byteE s i a)]) ∧ w = w' := by
  have H := Lib.hid (byteAt_any s g i a w h)
  by_cases he : byteE s i a = 0
  · obtain ⟨k, m, rfl, rfl, hk, hm⟩ := byteE_0 he
    have hn := h.n0
    have hx := h.cb (m := k * 16 + m) (by omega)
    have hl : k * 16 + m < s.B.length := by rw [h.b]; omega
    have HV : Hid (byteV s k m = s.B[k * 16 + m]) := by unfold Hid byteV; rw [if_pos he, Int.toNat_natCast, Int.toNat_natCast, List.getElem?_eq_getElem hl]; rfl
    rw [he] at H
    rw [he]
    rw [← Nat.add_assoc] at hx
    have k0 : (0 : Int) ≤ (k : Int) := by omega
    have k1 : (k : Int) < 32 := by omega
    have m0 : (0 : Int) ≤ (m : Int) := by omega
    have m1 : (m : Int) < 16 := by omega
    clear he
    generalize s.B[k * 16 + m] = v at *
    go_enter Try.func9, Try.ntmps9
    go_wp2_with fail
    refine H.out.mono ?_
    rintro e w2 ⟨rfl, rfl⟩
    go_wp2_with fail
    go_ret2
    exact ⟨ret_pair HV.out.symm, rfl⟩
  · have HV : Hid (byteV s i a = 0) := by unfold Hid byteV; rw [if_neg he]
    have hne : (byteE s i a != 0) = true := by simp [he]
    clear he
    generalize byteE s i a = v at *
    go_enter Try.func9, Try.ntmps9
    go_wp2_with fail
    refine H.out.mono ?_
    rintro e w2 ⟨rfl, rfl⟩
    go_wp2_with fail
    go_ret2
    exact ⟨ret_pair HV.out.symm, rfl⟩
def writeF (s : FrS) (i a : Int) (v : Int) : FrS := if byteE s i a = 0 then { s with B := s.B.set (i.toNat * 16 + a.toNat) v } else s
def RetF (s : FrS) (g : Nat) (v : Value) (w : World) (e : Ending) (w' : World) : Prop := e = .returned v ∧ Fm w' g s ∧ w.grownBy w' (some g)
set_option maxHeartbeats 1000000 in
theorem write_any (s : FrS) (g : Nat) (i a v : Int) (w : World) (h : Fm w g s) : Calls Try.prog 11 #[.pointer (some ⟨g, 0, none⟩), .int .i64 i, .int .i64 a, .int .u8 v] w (RetF (writeF s i a v) g (.int .i64 (byteE s i a)) w) := by
  have H := Lib.hid (byteAt_any s g i a w h)
  unfold writeF
  by_cases he : byteE s i a = 0
  · rw [if_pos he]
    obtain ⟨k, m, rfl, rfl, hk, hm⟩ := byteE_0 he
    have hn := h.n0
    obtain ⟨v0, hx⟩ : ∃ v0, w.cell? ⟨g, 33 + (k * 16 + m), none⟩ = some (.int .u8 v0) := ⟨_, h.cb (m := k * 16 + m) (by omega)⟩
    have hf := h.at_.frozen (33 + (k * 16 + m))
    have HS := Lib.hid (h.setB (k * 16 + m) v)
    have HG := Lib.hid (only_set (only_refl w g) (33 + (k * 16 + m)) (.int .u8 v))
    simp only [Int.toNat_natCast]
    rw [he] at H
    rw [he]
    rw [← Nat.add_assoc] at hx hf HS HG
    have k0 : (0 : Int) ≤ (k : Int) := by omega
    have k1 : (k : Int) < 32 := by omega
    have m0 : (0 : Int) ≤ (m : Int) := by omega
    have m1 : (m : Int) < 16 := by omega
    clear he h
    go_enter Try.func11, Try.ntmps11
    go_wp2_with fail
    refine H.out.mono ?_
    rintro e w2 ⟨rfl, rfl⟩
    go_wp2_with fail
    go_ret
    exact ⟨rfl, HS.out, HG.out⟩
  · rw [if_neg he]
    have hne : (byteE s i a != 0) = true := by simp [he]
    clear he
    generalize byteE s i a = e0 at *
    go_enter Try.func11, Try.ntmps11
    go_wp2_with fail
    refine H.out.mono ?_
    rintro e w2 ⟨rfl, rfl⟩
    go_wp2_with fail
    go_ret
    exact ⟨rfl, h, only_refl w g⟩
def freeF (s : FrS) (i : Int) : FrS := if takenF s i then { s with T := s.T.set i.toNat false } else s
set_option maxHeartbeats 1000000 in
theorem free_any (s : FrS) (g : Nat) (i : Int) (w : World) (h : Fm w g s) : Calls Try.prog 7 #[.pointer (some ⟨g, 0, none⟩), .int .i64 i] w (RetF (freeF s i) g (.int .i64 (if takenF s i then 0 else 6)) w) := by
  have H := Lib.hid (taken_any s g i w h)
  unfold freeF
  have HM := Lib.hid h
  cases ht : takenF s i
  · rw [ht] at H
    simp only [Bool.false_eq_true, if_false]
    clear h
    go_enter Try.func7, Try.ntmps7
    go_wp2_with fail
    refine H.out.mono ?_
    rintro e w2 ⟨rfl, rfl⟩
    go_wp2_with fail
    go_ret
    exact ⟨rfl, HM.out, only_refl w g⟩
  · rw [ht] at H
    simp only [if_true]
    obtain ⟨k, rfl, hk⟩ := takenF_t ht
    have hn := h.n0
    obtain ⟨v0, hx⟩ : ∃ v0, w.cell? ⟨g, 1 + k, none⟩ = some (.bool v0) := ⟨_, h.ct (i := k) (by omega)⟩
    have hf := h.at_.frozen (1 + k)
    have HS := Lib.hid (h.setT (i := k) (by omega) false)
    have HG := Lib.hid (only_set (only_refl w g) (1 + k) (.bool false))
    have k0 : (0 : Int) ≤ (k : Int) := by omega
    have k1 : (k : Int) < 32 := by omega
    simp only [Int.toNat_natCast]
    clear h ht
    go_enter Try.func7, Try.ntmps7
    go_wp2_with fail
    refine H.out.mono ?_
    rintro e w2 ⟨rfl, rfl⟩
    go_wp2_with fail
    go_ret
    exact ⟨rfl, HS.out, HG.out⟩
end Go.Proofs.Ytjmonplgabhceaa
