/- The document's frames: Is, Free. -/
import Derived.Test.YtjmonplgabhceaaU1
namespace Go.Proofs.Ytjmonplgabhceaa
open Go.RowKit Go.Lib

def isD (R : List FrE) (i : Int) : Bool := decide (0 ≤ i ∧ i < R.length) && ((R[i.toNat]?).map FrE.T).getD false
theorem isD_at {R : List FrE} {k : Nat} (hk : k < R.length) : isD R (k : Int) = R[k].T := by
  unfold isD
  rw [decide_eq_true (by omega), Int.toNat_natCast, List.getElem?_eq_getElem hk]
  rfl
theorem isD_no {R : List FrE} {i : Int} (h : ¬ (0 ≤ i ∧ i < R.length)) : isD R i = false := by
  unfold isD
  rw [decide_eq_false h]
  rfl
set_option maxHeartbeats 1000000 in
theorem is_any (q c : Nat) (R : List FrE) (i : Int) (w : World) (hD : Dm w (some ⟨q, 0, none⟩) c R) : Calls Try.prog 17 #[.slice (some ⟨q, 0, none⟩) R.length c, .int .i64 i] w fun e w' => e = .returned (.bool (isD R i)) ∧ w = w' := by
  have hl := hD.len.2
  by_cases h0 : 0 ≤ i
  · by_cases h1 : i < (R.length : Int)
    · obtain ⟨k, rfl⟩ := Int.eq_ofNat_of_zero_le h0
      have hk : k < R.length := by omega
      have c0 := hD.cell hk (j := 0) rfl
      have HH := Lib.hid (isD_at hk)
      simp only [Nat.add_zero] at c0
      generalize R[k].T = b at *
      clear hD
      go_enter Try.func17, Try.ntmps17
      go_wp2_with fail
      go_ret
      exact ⟨by rw [HH.out]; rfl, rfl⟩
    · have HH := Lib.hid (isD_no (R := R) (i := i) (by omega))
      have h1' : (R.length : Int) ≤ i := by omega
      clear hD
      go_enter Try.func17, Try.ntmps17
      go_wp2_with fail
      go_ret
      exact ⟨by rw [HH.out]; rfl, rfl⟩
  · have HH := Lib.hid (isD_no (R := R) (i := i) (by omega))
    have h0' : i < 0 := by omega
    clear hD
    go_enter Try.func17, Try.ntmps17
    go_wp2_with fail
    go_ret
    exact ⟨by rw [HH.out]; rfl, rfl⟩
/-- how many of the first k are not taken -/
def freeD (R : List FrE) (k : Nat) : Nat := (R.take k).countP (fun x => !x.T)
theorem freeD_succ {R : List FrE} {k : Nat} (hk : k < R.length) : freeD R (k + 1) = freeD R k + (if R[k].T then 0 else 1) := by
  unfold freeD
  rw [List.take_add_one, List.getElem?_eq_getElem hk, List.countP_append]
  cases h : R[k].T <;> simp [h]
theorem freeD_le (R : List FrE) (k : Nat) : freeD R k ≤ R.length := Nat.le_trans List.countP_le_length (by rw [List.length_take]; omega)
set_option maxHeartbeats 1000000 in
theorem rfree_any (q c : Nat) (R : List FrE) (w : World) (hD : Dm w (some ⟨q, 0, none⟩) c R) : Calls Try.prog 21 #[.slice (some ⟨q, 0, none⟩) R.length c] w fun e w' => e = .returned (.int .i64 (freeD R R.length)) ∧ w = w' := by
  have hl := hD.len.2
  have HD := Lib.hid hD
  clear hD
  go_enter Try.func21, Try.ntmps21
  go_wp2_with fail
  go_loop [3, 4] (fun s3 s4 => ∃ k f : Nat, k ≤ R.length ∧ s4 = .int .i64 k ∧ s3 = .int .i64 f ∧ f ≤ 32 ∧ Hid (f = freeD R k)) (fun _ i => R.length - (intOf i).toNat)
  case atStart => exact ⟨0, 0, Nat.zero_le _, rfl, rfl, Nat.zero_le _, rfl⟩
  case round =>
    obtain ⟨k, f, hk, rfl, rfl, hf, HF⟩ := hrel
    have k0 : (0 : Int) ≤ (k : Int) := by omega
    by_cases hkn : k < R.length
    · have c0 := HD.out.cell hkn (j := 0) rfl
      have HN := Lib.hid (freeD_succ hkn)
      have HL := Lib.hid (freeD_le R (k + 1))
      simp only [Nat.add_zero] at c0
      have k2 : (k : Int) < (R.length : Int) := by omega
      generalize R[k].T = b at *
      cases b
      · have hf2 : f + 1 ≤ 32 := by have := HN.out; have := HL.out; have := HF.out; simp at *; omega
        go_wp2_with fail
        go_round
        case rel => exact ⟨k + 1, f + 1, by omega, by go_num, by go_num, hf2, by rw [HN.out, HF.out]; rfl⟩
        case measure => simp [intOf]; omega
      · go_wp2_with fail
        go_round
        case rel => exact ⟨k + 1, f, by omega, by go_num, rfl, hf, by rw [HN.out, HF.out]; rfl⟩
        case measure => simp [intOf]; omega
    · obtain rfl : k = R.length := by omega
      go_wp2_with fail
      go_ret
      exact ⟨by rw [← HF.out]; rfl, rfl⟩
end Go.Proofs.Ytjmonplgabhceaa
