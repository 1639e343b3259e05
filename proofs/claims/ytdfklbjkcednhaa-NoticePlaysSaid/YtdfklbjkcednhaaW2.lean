/- Walks: rotating, and sorting by insertion. -/
import Derived.Test.YtdfklbjkcednhaaW1
namespace Go.Proofs.Ytdfklbjkcednhaa
open Go.RowKit Go.Lib

set_option maxRecDepth 100000 in
set_option maxHeartbeats 4000000 in
theorem rotate_any (B q c L a m b : Nat) (T G : List Nt) (w : World) (h : Rw B w q c T) (hL : Hid (T.length = L)) (h1 : a < m) (h2 : m < b) (hb : b ≤ L) (hR : RotI G m (m - a) (b - m) T) (h3 : L ≤ 1000) (cf : Value) :
    Calls Try.prog 32 #[.slice (some ⟨q, 0, none⟩) L c, .int .i64 a, .int .i64 m, .int .i64 b, cf] w fun e w' => e = .returned (.tuple #[]) ∧ Rw B w' q c G ∧ Sw q w w' := by
  obtain ⟨i0, hi0⟩ : ∃ i0, i0 = m - a := ⟨_, rfl⟩
  obtain ⟨j0, hj0⟩ : ∃ j0, j0 = b - m := ⟨_, rfl⟩
  rw [← hi0, ← hj0] at hR
  have e1 : Hid ((m : Int) - (a : Int) = (i0 : Int)) := by unfold Hid; omega
  have e2 : Hid ((b : Int) - (m : Int) = (j0 : Int)) := by unfold Hid; omega
  have HL := Lib.hid (show G.length = L from hR.len.1.symm.trans hL.out)
  clear hi0 hj0
  go_enter Try.func32, Try.ntmps32
  go_wp2_with fail
  rw [e1.out, e2.out]
  clear e1 e2
  go_loopw [10, 11] (fun v10 v11 wr => ∃ (i j : Nat) (T' : List Nt), v10 = .int .i64 i ∧ v11 = .int .i64 j ∧ RotI G m i j T' ∧ Rw B wr q c T' ∧ Sw q w wr) (fun v10 v11 _ => (intOf v10).toNat + (intOf v11).toNat)
  case atStart => exact ⟨i0, j0, T, rfl, rfl, hR, h, Sw.refl _⟩
  case round =>
    clear hR h
    obtain ⟨i, j, T', rfl, rfl, hR, hW, hS⟩ := hrel
    have hl := hR.len
    obtain ⟨q1, q2⟩ := hR.pos
    have hTL : Hid (T'.length = L) := by have := HL.out; unfold Hid; omega
    have hl2 : i ≤ m ∧ m + j ≤ L := by have := hTL.out; omega
    obtain ⟨l1, l2⟩ := hl2
    clear hl
    by_cases hij : i = j
    · subst hij
      have e1 : ((m - i : Nat) : Int) = (m : Int) - (i : Int) := by omega
      have hs := swapRange_any B q c L (m - i) m i T' wr hW hTL (by omega) (by omega) h3 cf
      rw [hR.last, e1] at hs
      have HS := Lib.hid hs
      clear hs hR hW e1 hTL
      go_wp2_with fail
      refine HS.out.mono ?_
      rintro e w2 ⟨rfl, hW2, hS2⟩
      go_wp2_with fail
      go_end0
      exact ⟨rfl, hW2, hS.trans hS2⟩
    · by_cases hlt : j < i
      · have e1 : ((m - i : Nat) : Int) = (m : Int) - (i : Int) := by omega
        have e2 : ((i - j : Nat) : Int) = (i : Int) - (j : Int) := by omega
        have hs := swapRange_any B q c L (m - i) m j T' wr hW hTL (by omega) (by omega) h3 cf
        rw [e1] at hs
        have HS := Lib.hid hs
        have HR := Lib.hid (hR.left hlt)
        have HE := Lib.hid e2
        have k1 : (j : Int) < (i : Int) := by omega
        have k2 : ¬ (i : Int) = (j : Int) := by omega
        clear hs hR hW e1 e2 hTL hij hlt
        go_wp2_with fail
        refine HS.out.mono ?_
        rintro e w2 ⟨rfl, hW2, hS2⟩
        go_wp2_with fail
        go_roundw
        case rel => exact ⟨i - j, j, _, by rw [HE.out], rfl, HR.out, hW2, hS.trans hS2⟩
        case measure => simp [intOf]; omega
      · have hgt : i < j := by omega
        have e1 : ((m - i : Nat) : Int) = (m : Int) - (i : Int) := by omega
        have e2 : ((j - i : Nat) : Int) = (j : Int) - (i : Int) := by omega
        have e3 : ((m + j - i : Nat) : Int) = (m : Int) + (j : Int) - (i : Int) := by omega
        have hs := swapRange_any B q c L (m - i) (m + j - i) i T' wr hW hTL (by omega) (by omega) h3 cf
        rw [e1, e3] at hs
        have HS := Lib.hid hs
        have HR := Lib.hid (hR.right hgt)
        have HE := Lib.hid e2
        have k1 : ¬ (j : Int) < (i : Int) := by omega
        have k2 : ¬ (i : Int) = (j : Int) := by omega
        clear hs hR hW e1 e2 e3 hTL hij hlt
        go_wp2_with fail
        refine HS.out.mono ?_
        rintro e w2 ⟨rfl, hW2, hS2⟩
        go_wp2_with fail
        go_roundw
        case rel => exact ⟨i, j - i, _, rfl, by rw [HE.out], HR.out, hW2, hS.trans hS2⟩
        case measure => simp [intOf]; omega
end Go.Proofs.Ytdfklbjkcednhaa
