/- The document's frames: Read, Take. -/
import Derived.Test.YtjmonplgabhceaaU2
namespace Go.Proofs.Ytjmonplgabhceaa
open Go.RowKit Go.Lib

theorem eF_at (x : FrE) {j : Nat} (hj : j < 16) : (eF x)[1 + j]? = some (.int .u8 (x.B j)) := by
  have : j = 0 ∨ j = 1 ∨ j = 2 ∨ j = 3 ∨ j = 4 ∨ j = 5 ∨ j = 6 ∨ j = 7 ∨ j = 8 ∨ j = 9 ∨ j = 10 ∨ j = 11 ∨ j = 12 ∨ j = 13 ∨ j = 14 ∨ j = 15 := by omega
  rcases this with rfl | rfl | rfl | rfl | rfl | rfl | rfl | rfl | rfl | rfl | rfl | rfl | rfl | rfl | rfl | rfl <;> rfl
def readE (R : List FrE) (i at_ : Int) : Int := if isD R i then (if 0 ≤ at_ ∧ at_ ≤ 15 then 0 else 1) else 6
def readV (R : List FrE) (i at_ : Int) : Int := if isD R i then (if 0 ≤ at_ ∧ at_ ≤ 15 then ((R[i.toNat]?).map (fun x => x.B at_.toNat)).getD 0 else 0) else 0
set_option maxHeartbeats 2000000 in
theorem rread_any (q c : Nat) (R : List FrE) (i at_ : Int) (w : World) (hD : Dm w (some ⟨q, 0, none⟩) c R) : Calls Try.prog 10 #[.slice (some ⟨q, 0, none⟩) R.length c, .int .i64 i, .int .i64 at_] w fun e w' => e = .returned (.tuple #[.int .u8 (readV R i at_), .int .i64 (readE R i at_)]) ∧ w = w' := by
  have hl := hD.len.2
  have HI := Lib.hid (is_any q c R i w hD)
  have HD := Lib.hid hD
  clear hD
  cases hb : isD R i
  · rw [hb] at HI
    have H1 : Hid (readV R i at_ = 0 ∧ readE R i at_ = 6) := by unfold Hid readV readE; rw [hb]; simp
    clear hb
    go_enter Try.func10, Try.ntmps10
    go_wp2_with fail
    refine HI.out.mono ?_
    rintro e w2 ⟨rfl, rfl⟩
    go_wp2_with fail
    go_ret2
    exact ⟨by rw [H1.out.1, H1.out.2]; rfl, rfl⟩
  · have hR : 0 ≤ i ∧ i < R.length := by
      by_cases h : 0 ≤ i ∧ i < R.length
      · exact h
      · rw [isD_no h] at hb; cases hb
    rw [hb] at HI
    obtain ⟨k, rfl⟩ := Int.eq_ofNat_of_zero_le hR.1
    have hk : k < R.length := by omega
    by_cases h0 : 0 ≤ at_
    · by_cases h1 : at_ ≤ 15
      · obtain ⟨j, rfl⟩ := Int.eq_ofNat_of_zero_le h0
        have hj : j < 16 := by omega
        have c0 := HD.out.cell hk (eF_at R[k] hj)
        rw [← Nat.add_assoc] at c0
        have H1 : Hid (readV R k j = R[k].B j ∧ readE R k j = 0) := by
          unfold Hid readV readE
          rw [hb, if_pos rfl, if_pos ⟨h0, h1⟩, if_pos rfl, if_pos ⟨h0, h1⟩, Int.toNat_natCast, Int.toNat_natCast, List.getElem?_eq_getElem hk]
          exact ⟨rfl, rfl⟩
        have k1 : (k : Int) < (R.length : Int) := by omega
        have k0 : (0 : Int) ≤ (k : Int) := by omega
        have j1 : (j : Int) < 16 := by omega
        generalize R[k].B j = v at *
        clear hb hR
        go_enter Try.func10, Try.ntmps10
        go_wp2_with fail
        refine HI.out.mono ?_
        rintro e w2 ⟨rfl, rfl⟩
        go_wp2_with fail
        go_ret2
        exact ⟨by rw [H1.out.1, H1.out.2]; rfl, rfl⟩
      · have H1 : Hid (readV R k at_ = 0 ∧ readE R k at_ = 1) := by unfold Hid readV readE; rw [hb, if_pos rfl, if_neg (by omega), if_pos rfl, if_neg (by omega)]; exact ⟨rfl, rfl⟩
        have h1' : 15 < at_ := by omega
        clear hb hR
        go_enter Try.func10, Try.ntmps10
        go_wp2_with fail
        refine HI.out.mono ?_
        rintro e w2 ⟨rfl, rfl⟩
        go_wp2_with fail
        go_ret2
        exact ⟨by rw [H1.out.1, H1.out.2]; rfl, rfl⟩
    · have H1 : Hid (readV R k at_ = 0 ∧ readE R k at_ = 1) := by unfold Hid readV readE; rw [hb, if_pos rfl, if_neg (by omega), if_pos rfl, if_neg (by omega)]; exact ⟨rfl, rfl⟩
      have h1' : at_ < 0 := by omega
      clear hb hR
      go_enter Try.func10, Try.ntmps10
      go_wp2_with fail
      refine HI.out.mono ?_
      rintro e w2 ⟨rfl, rfl⟩
      go_wp2_with fail
      go_ret2
      exact ⟨by rw [H1.out.1, H1.out.2]; rfl, rfl⟩
def firstD (R : List FrE) : Option Nat := R.findIdx? (fun x => !x.T)
theorem firstD_hit {R : List FrE} {k : Nat} (hk : k < R.length) (h : R[k].T = false) (h2 : ∀ j, (hj : j < R.length) → j < k → R[j].T = true) : firstD R = some k := by
  refine List.findIdx?_eq_some_iff_getElem.2 ⟨hk, by simp [h], fun j hj => ?_⟩
  simp [h2 j (by omega) hj]
theorem firstD_miss {R : List FrE} (h2 : ∀ j, (hj : j < R.length) → R[j].T = true) : firstD R = none := by
  refine List.findIdx?_eq_none_iff.2 (fun x hx => ?_)
  obtain ⟨j, hj, rfl⟩ := List.getElem_of_mem hx
  simp [h2 j hj]
def newE : FrE := ⟨true, fun _ => 0⟩
def takeD (R : List FrE) : List FrE := match firstD R with
  | some i => R.set i newE
  | none => R
theorem takeD_len (R : List FrE) : (takeD R).length = R.length := by unfold takeD; split <;> simp
def tkE (R : List FrE) : Int := if (firstD R).isSome then 0 else 20
def tkK (R : List FrE) : Nat := (firstD R).getD 0
/-- the rows behind: the old row, or a new one -/
def RetDT (q c : Nat) (R' : List FrE) (vs : List Value) (w : World) (e : Ending) (w' : World) : Prop := ∃ (q' d : Nat), e = .returned (.tuple (.slice (some ⟨q', 0, none⟩) R'.length d :: vs).toArray) ∧ Dm w' (some ⟨q', 0, none⟩) d R' ∧ (q' = q ∨ w.heap.size ≤ q') ∧ Below w.heap.size w w'
set_option maxRecDepth 100000 in
set_option maxHeartbeats 2000000 in
theorem rtake_any (q c : Nat) (R : List FrE) (w : World) (hD : Dm w (some ⟨q, 0, none⟩) c R) : Calls Try.prog 14 #[.slice (some ⟨q, 0, none⟩) R.length c] w (RetDT q c (takeD R) [.int .i64 (tkK R), .int .i64 (tkE R)] w) := by
  have hl := hD.len.2
  have HD := Lib.hid hD
  clear hD
  go_enter Try.func14, Try.ntmps14
  go_wp2_with fail
  go_loop [2, 3, 4, 5] (fun s2 s3 s4 s5 => ∃ k : Nat, k ≤ R.length ∧ s5 = .int .i64 k ∧ s2 = .slice none 0 0 ∧ s3 = .int .i64 0 ∧ s4 = .int .i64 0 ∧ Hid (∀ j, (hj : j < R.length) → j < k → R[j].T = true)) (fun _ _ _ i => R.length - (intOf i).toNat)
  case atStart => exact ⟨0, Nat.zero_le _, rfl, rfl, rfl, rfl, fun j hj h => absurd h (Nat.not_lt_zero _)⟩
  case round =>
    obtain ⟨k, hk, rfl, rfl, rfl, rfl, HA⟩ := hrel
    have k0 : (0 : Int) ≤ (k : Int) := by omega
    by_cases hkn : k < R.length
    · have c0 := HD.out.cell hkn (j := 0) rfl
      simp only [Nat.add_zero] at c0
      have HW := Lib.hid (with_any _ c R k newE w HD.out hkn)
      have HH : Hid (R[k].T = false → firstD R = some k) := fun h => firstD_hit hkn h HA.out
      have HN : Hid (R[k].T = true → ∀ j, (hj : j < R.length) → j < k + 1 → R[j].T = true) := fun h j hj hjk => by
        by_cases he : j = k
        · subst he; exact h
        · exact HA.out j hj (by omega)
      have k2 : (k : Int) < (R.length : Int) := by omega
      generalize R[k].T = b at *
      cases b
      · have HF := Lib.hid (HH.out rfl)
        clear HH HN HA
        go_wp2_with fail
        refine HW.out.mono ?_
        rintro e w2 ⟨q2, d, rfl, hD2, hq2, hb2⟩
        (have HE := Lib.hid (And.intro hD2 (And.intro hq2 hb2))); clear hD2 hq2 hb2
        go_wp2_with fail
        go_ret3
        refine ⟨q2, d, ?_, ?_, .inr HE.out.2.1, HE.out.2.2⟩
        · rw [takeD_len]; unfold tkE tkK; rw [HF.out]; rfl
        · unfold takeD; rw [HF.out]; exact HE.out.1
      · have HN2 := Lib.hid (HN.out rfl)
        clear HN HH HA
        go_wp2_with fail
        go_round
        case rel => exact ⟨k + 1, by omega, by go_num, rfl, rfl, rfl, HN2.out⟩
        case measure => simp [intOf]; omega
    · obtain rfl : k = R.length := by omega
      have HF := Lib.hid (firstD_miss (fun j hj => HA.out j hj hj))
      go_wp2_with fail
      go_ret3
      refine ⟨q, c, ?_, ?_, .inl rfl, Below.refl _ _⟩
      · rw [takeD_len]; unfold tkE tkK; rw [HF.out]; rfl
      · unfold takeD; rw [HF.out]; exact HD.out
end Go.Proofs.Ytjmonplgabhceaa
