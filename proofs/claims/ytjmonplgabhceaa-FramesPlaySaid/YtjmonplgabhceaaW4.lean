/- Walk over package frames: Take. -/
import Derived.Test.YtjmonplgabhceaaW3
import Derived.Deep.MidRow
namespace Go.Proofs.Ytjmonplgabhceaa
open Go.RowKit

/-- the first that isn't taken -/
def firstF (s : FrS) : Option Nat := (s.T.take s.n).findIdx? (fun b => !b)
/-- numbers laid side by side from a place on -/
def layB (B : List Int) : Nat → List Int → List Int
  | _, [] => B
  | m, v :: r => layB (B.set m v) (m + 1) r
def zero16 (B : List Int) (i : Nat) : List Int := layB B (i * 16) [0, 0, 0, 0, 0, 0, 0, 0, 0, 0, 0, 0, 0, 0, 0, 0]
theorem Fm.lay {g : Nat} : ∀ (vs : List Int) (m : Nat) (w : World) (s : FrS), Fm w g s → Fm (w.setCells g (33 + m) (vs.map (Value.int .u8))) g { s with B := layB s.B m vs } ∧ w.grownBy (w.setCells g (33 + m) (vs.map (Value.int .u8))) (some g)
  | [], _, w, _, h => ⟨h, only_refl w g⟩
  | v :: r, m, w, s, h => by
    have h2 := Fm.lay r (m + 1) _ _ (h.setB m v)
    exact ⟨h2.1, only_trans (only_set (only_refl w g) _ _) h2.2⟩
theorem Fm.there {w : World} {g : Nat} {s : FrS} (h : Fm w g s) {k : Nat} (hk : k < 32) : w.there g (33 + k * 16) 16 := fun j hj => by
  rw [Nat.add_assoc]
  exact ⟨by rw [h.cb (m := k * 16 + j) (by omega)]; rfl, h.at_.frozen _⟩
theorem Fm.cell16 {w : World} {g : Nat} {s : FrS} (h : Fm w g s) {k j : Nat} (hk : k < 32) (hj : j < 16) : ∃ v, w.cell? ⟨g, 33 + k * 16 + j, none⟩ = some (.int .u8 v) ∧ w.frozen? ⟨g, 33 + k * 16 + j, none⟩ = false := by
  rw [Nat.add_assoc]
  exact ⟨_, h.cb (m := k * 16 + j) (by omega), h.at_.frozen _⟩
theorem size16 : (Try.prog.info? 50).map (·.size) = some 16 := by kernel_rfl
def takeF (s : FrS) : FrS := match firstF s with
  | some i => { s with T := s.T.set i true, B := zero16 s.B i }
  | none => s
theorem first_hit {s : FrS} {k : Nat} (hn : s.n ≤ s.T.length) (hk : k < s.n) (h : s.T[k] = false) (h2 : ∀ j, (hj : j < k) → s.T[j] = true) : firstF s = some k := by
  unfold firstF
  refine List.findIdx?_eq_some_iff_getElem.2 ⟨by simp; omega, by simp [h], fun j hj => ?_⟩
  simp [h2 j hj]
theorem first_miss {s : FrS} (hn : s.n ≤ s.T.length) (h2 : ∀ j, (hj : j < s.n) → s.T[j] = true) : firstF s = none := by
  unfold firstF
  refine List.findIdx?_eq_none_iff.2 (fun x hx => ?_)
  obtain ⟨j, hj, rfl⟩ := List.getElem_of_mem hx
  have hj2 : j < s.n := by simp at hj; omega
  rw [List.getElem_take, h2 j hj2]
  rfl
def RetTkF (s : FrS) (g : Nat) (w : World) (e : Ending) (w' : World) : Prop := e = .returned (.tuple #[.int .i64 ((firstF s).getD 0 : Nat), .int .i64 (if (firstF s).isSome then 0 else 20)]) ∧ Fm w' g (takeF s) ∧ w.grownBy w' (some g)
set_option maxRecDepth 100000 in
set_option maxHeartbeats 4000000 in
theorem take_any (s : FrS) (g : Nat) (w : World) (h : Fm w g s) : Calls Try.prog 13 #[.pointer (some ⟨g, 0, none⟩)] w (RetTkF s g w) := by
  have c0 := h.cn
  have HM := Lib.hid h
  have hn := h.n0
  have hnT : s.n ≤ s.T.length := by rw [h.t]; exact hn
  clear h
  go_enter Try.func13, Try.ntmps13
  go_wp2_with fail
  go_loop [2, 3, 4, 11] (fun s2 s3 _ s11 => ∃ k : Nat, k ≤ s.n ∧ s11 = .int .i64 k ∧ s2 = .int .i64 0 ∧ s3 = .int .i64 0 ∧ Hid (∀ j, (hj : j < s.T.length) → j < k → s.T[j] = true)) (fun _ _ _ i => s.n - (intOf i).toNat)
  case atStart => exact ⟨0, Nat.zero_le _, rfl, rfl, rfl, fun j hj h => absurd h (Nat.not_lt_zero _)⟩
  case round =>
    obtain ⟨k, hk, rfl, rfl, rfl, HA⟩ := hrel
    by_cases hkn : k < s.n
    · have hkT : k < s.T.length := by omega
      have c1 := HM.out.ct (i := k) (by omega)
      have HH : Hid (s.T[k] = false → firstF s = some k) := fun h => first_hit hnT hkn h (fun j hj => HA.out j (by omega) hj)
      have HN : Hid (s.T[k] = true → ∀ j, (hj : j < s.T.length) → j < k + 1 → s.T[j] = true) := fun h j hj hjk => by
        by_cases he : j = k
        · subst he; exact h
        · exact HA.out j hj (by omega)
      have k0 : (0 : Int) ≤ (k : Int) := by omega
      have k1 : (k : Int) < 32 := by omega
      have k2 : (k : Int) < (s.n : Int) := by omega
      have f1 := HM.out.at_.frozen (1 + k)
      generalize s.T[k] = b at *
      cases b
      · have HF := Lib.hid (HH.out rfl)
        have hT := HM.out.setT (i := k) (by omega) true
        obtain ⟨v0, y0, z0⟩ := hT.cell16 (k := k) (j := 0) (by omega) (by omega)
        obtain ⟨v1, y1, z1⟩ := hT.cell16 (k := k) (j := 1) (by omega) (by omega)
        obtain ⟨v2, y2, z2⟩ := hT.cell16 (k := k) (j := 2) (by omega) (by omega)
        obtain ⟨v3, y3, z3⟩ := hT.cell16 (k := k) (j := 3) (by omega) (by omega)
        obtain ⟨v4, y4, z4⟩ := hT.cell16 (k := k) (j := 4) (by omega) (by omega)
        obtain ⟨v5, y5, z5⟩ := hT.cell16 (k := k) (j := 5) (by omega) (by omega)
        obtain ⟨v6, y6, z6⟩ := hT.cell16 (k := k) (j := 6) (by omega) (by omega)
        obtain ⟨v7, y7, z7⟩ := hT.cell16 (k := k) (j := 7) (by omega) (by omega)
        obtain ⟨v8, y8, z8⟩ := hT.cell16 (k := k) (j := 8) (by omega) (by omega)
        obtain ⟨v9, y9, z9⟩ := hT.cell16 (k := k) (j := 9) (by omega) (by omega)
        obtain ⟨v10, y10, z10⟩ := hT.cell16 (k := k) (j := 10) (by omega) (by omega)
        obtain ⟨v11, y11, z11⟩ := hT.cell16 (k := k) (j := 11) (by omega) (by omega)
        obtain ⟨v12, y12, z12⟩ := hT.cell16 (k := k) (j := 12) (by omega) (by omega)
        obtain ⟨v13, y13, z13⟩ := hT.cell16 (k := k) (j := 13) (by omega) (by omega)
        obtain ⟨v14, y14, z14⟩ := hT.cell16 (k := k) (j := 14) (by omega) (by omega)
        obtain ⟨v15, y15, z15⟩ := hT.cell16 (k := k) (j := 15) (by omega) (by omega)
        simp only [Nat.add_zero] at y0 z0
        have HL := Lib.hid (Fm.lay [0, 0, 0, 0, 0, 0, 0, 0, 0, 0, 0, 0, 0, 0, 0, 0] (k * 16) _ _ hT)
        clear HH HN HA hT
        go_wp2_with fail
        go_ret2
        refine ⟨by rw [HF.out]; rfl, ?_, only_trans (only_set (only_refl w g) (1 + k) (.bool true)) HL.out.2⟩
        unfold takeF
        rw [HF.out]
        exact HL.out.1
      · have HN2 := Lib.hid (HN.out rfl)
        clear HN HH HA
        go_wp2_with fail
        go_round
        case rel => exact ⟨k + 1, by omega, by go_num, rfl, rfl, HN2.out⟩
        case measure => simp [intOf]; omega
    · obtain rfl : k = s.n := by omega
      have HF := Lib.hid (first_miss hnT (fun j hj => HA.out j (by omega) hj))
      go_wp2_with fail
      go_ret2
      refine ⟨by rw [HF.out]; rfl, ?_, only_refl w g⟩
      unfold takeF
      rw [HF.out]
      exact HM.out
end Go.Proofs.Ytjmonplgabhceaa
