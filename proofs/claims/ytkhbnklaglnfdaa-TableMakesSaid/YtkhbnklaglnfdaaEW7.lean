/- Plain: how often each job had a tick. -/
import Derived.Test.YtkhbnklaglnfdaaEM2
namespace Go.Proofs.Ytkhbnklaglnfdaa.Edf

def hadC (s : List Int) (n k : Nat) : List Int := (List.range n).map fun (i : Nat) => (cnt s (i : Int) k : Int)
theorem hadC_len (s : List Int) (n k : Nat) : (hadC s n k).length = n := by simp [hadC]
theorem hadC_at (s : List Int) (n k i : Nat) (h : i < (hadC s n k).length) : (hadC s n k)[i] = (cnt s i k : Int) := by simp [hadC]
theorem hadC_zero (s : List Int) (n : Nat) : hadC s n 0 = List.replicate n 0 := by
  apply List.ext_getElem
  · simp [hadC]
  · intro i h1 h2
    rw [hadC_at]
    simp [cnt]
theorem hadC_same (s : List Int) (n k : Nat) (h : s.getD k (-1) < 0) : hadC s n (k + 1) = hadC s n k := by
  apply List.ext_getElem
  · simp [hadC]
  · intro i h1 h2
    rw [hadC_at, hadC_at, cnt, if_neg (by omega)]
    rfl
theorem hadC_set (s : List Int) (n k Y : Nat) (h : s.getD k (-1) = (Y : Int)) (hY : Y < n) : hadC s n (k + 1) = (hadC s n k).set Y ((cnt s Y k : Int) + 1) := by
  apply List.ext_getElem
  · simp [hadC]
  · intro i h1 h2
    rw [hadC_at, List.getElem_set, cnt, h]
    by_cases he : Y = i
    · subst he; rw [if_pos rfl, if_pos rfl]; omega
    · rw [if_neg he, if_neg (by omega), hadC_at]; omega
theorem cnt_top (s : List Int) (x : Int) : ∀ t, cnt s x t ≤ t
  | 0 => Nat.le_refl _
  | t + 1 => by have := cnt_top s x t; rw [cnt]; split <;> omega
end Go.Proofs.Ytkhbnklaglnfdaa.Edf
