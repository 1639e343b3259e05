/- Walks over package heap: up, down. -/
import Derived.Test.YtlkgmedenbfhkaaW2
namespace Go.Proofs.Ytlkgmedenbfhkaa
open Go.RowKit Go.Lib

set_option maxRecDepth 100000 in
set_option maxHeartbeats 4000000 in
theorem up_any (F : Nat → Prop) (g : Nat) (E : List En) (hd tn : Int) (i : Nat) (w : World) (h : Hp F w g E hd tn) (hi : i < E.length) (hl : E.length ≤ 1000) (hu : UpI E i) :
    Calls Try.prog 13 #[.pointer (some ⟨g, 0, none⟩), .int .i64 i] w (RetV F g hd tn (fun E' => E'.Perm E ∧ HeapB E') w) := by
  have HU := Lib.hid hu
  clear hu
  go_enter Try.func13, Try.ntmps13
  go_wp2_with fail
  go_loopw [1, 4] (fun s1 _ wr => ∃ (i : Nat) (E' : List En), s1 = .int .i64 i ∧ i < E'.length ∧ Hp F wr g E' hd tn ∧ Hid (E'.Perm E) ∧ Hid (UpI E' i) ∧ E'.length ≤ 1000 ∧ Kp F w wr) (fun i _ _ => (intOf i).toNat)
  case atStart => exact ⟨i, E, rfl, hi, h, List.Perm.refl _, HU.out, hl, Kp.refl F w⟩
  case round =>
    clear h hi hl HU
    obtain ⟨i, E', rfl, hi, h, HP, HU, hl, hk⟩ := hrel
    by_cases h0 : 0 < i
    · obtain ⟨p, hp⟩ : ∃ p, p = (i - 1) / 2 := ⟨_, rfl⟩
      have hpi : p < i := by omega
      have hq : ((i : Int) - 1) / 2 = (p : Int) := by omega
      have i0 : (0 : Int) < (i : Int) := by omega
      have i1 : (i : Int) ≤ 1000 := by omega
      have p0 : (0 : Int) ≤ (p : Int) := by omega
      have p1 : (p : Int) ≤ 1000 := by omega
      have HA := Lib.hid (ahead_any F g E' hd tn i p wr h hi (by omega))
      have HPP := Lib.hid hp
      clear hp
      cases ha : ltE (atE E' i) (atE E' p)
      · rw [ha] at HA
        have hfin : Hid (HeapB E') := up_end HU.out (.inr (by rw [← HPP.out]; exact not_lt ha))
        clear ha
        go_wp2_with fail
        refine HA.out.mono ?_
        rintro e w2 ⟨rfl, hb⟩
        have h2 := h.keep hb
        have hk2 := hk.trans (h.kp hb)
        go_wp2_with fail
        go_end0
        exact ⟨rfl, ⟨E', h2, HP.out, hfin.out⟩, hk2⟩
      · rw [ha] at HA
        have HS := Lib.hid (fun W hW => swap_any F g E' hd tn i p W hW hi (by omega) (by omega))
        have hst : Hid (UpI (swapE E' i p) p) := by unfold Hid; have := up_step hi h0 HU.out (by rw [← HPP.out]; exact lt_le ha); rw [← HPP.out] at this; exact this
        have hpr : Hid ((swapE E' i p).Perm E) := (swapE_perm hi (by omega)).trans HP.out
        have hsl := swapE_len E' i p
        have HSL : Hid (p < (swapE E' i p).length ∧ (swapE E' i p).length ≤ 1000) := by unfold Hid; rw [hsl]; exact ⟨by omega, hl⟩
        clear ha hsl
        go_wp2_with fail
        refine HA.out.mono ?_
        rintro e w2 ⟨rfl, hb⟩
        have h2 := h.keep hb
        have hk2 := hk.trans (h.kp hb)
        clear h hk hb
        go_wp2_with fail
        refine (HS.out _ h2).mono ?_
        rintro e w3 ⟨rfl, ⟨_, h3, rfl⟩, hk3⟩
        go_wp2_with fail
        go_roundw
        case rel => exact ⟨p, _, rfl, HSL.out.1, h3, hpr.out, hst.out, HSL.out.2, hk2.trans hk3⟩
        case measure => simp [intOf]; omega
    · obtain rfl : i = 0 := by omega
      have hfin : Hid (HeapB E') := up_end HU.out (.inl rfl)
      go_wp2_with fail
      go_end0
      exact ⟨rfl, ⟨E', h, HP.out, hfin.out⟩, hk⟩
/-- the least so far: of i and its first children -/
structure LsI (E : List En) (i c m : Nat) : Prop where
  fm : m < E.length
  fc : 2 * i + 1 ≤ c ∧ c ≤ 2 * i + 3
  fo : m = i ∨ (0 < m ∧ (m - 1) / 2 = i)
  fl : leE (atE E m) (atE E i)
  fh : ∀ j, j < E.length → 0 < j → (j - 1) / 2 = i → j < c → leE (atE E m) (atE E j)
set_option maxRecDepth 100000 in
set_option maxHeartbeats 8000000 in
theorem down_any (F : Nat → Prop) (g : Nat) (E : List En) (hd tn : Int) (i : Nat) (w : World) (h : Hp F w g E hd tn) (hi : i < E.length) (hl : E.length ≤ 1000) (hu : DownI E i) :
    Calls Try.prog 16 #[.pointer (some ⟨g, 0, none⟩), .int .i64 i] w (RetV F g hd tn (fun E' => E'.Perm E ∧ HeapB E') w) := by
  have HU := Lib.hid hu
  clear hu
  go_enter Try.func16, Try.ntmps16
  go_wp2_with fail
  go_loopw [1, 4, 5] (fun s1 _ _ wr => ∃ (i : Nat) (E' : List En), s1 = .int .i64 i ∧ i < E'.length ∧ Hp F wr g E' hd tn ∧ Hid (E'.Perm E) ∧ Hid (DownI E' i) ∧ E'.length ≤ 1000 ∧ E'.length = E.length ∧ Kp F w wr) (fun i _ _ _ => E.length - (intOf i).toNat)
  case atStart => exact ⟨i, E, rfl, hi, h, List.Perm.refl _, HU.out, hl, rfl, Kp.refl F w⟩
  case round =>
    clear h hi hl HU
    obtain ⟨i, E', rfl, hi, h, HP, HU, hl, hlen, hk⟩ := hrel
    have HLEN := Lib.hid hlen
    clear hlen
    have i0 : (0 : Int) ≤ (i : Int) := by omega
    have i1 : (i : Int) ≤ 1000 := by omega
    go_wp2_with fail
    go_loopw [4, 5] (fun s4 s5 wr => ∃ (c m : Nat), s5 = .int .i64 c ∧ s4 = .int .i64 m ∧ LsI E' i c m ∧ Hp F wr g E' hd tn ∧ Kp F w wr) (fun _ s5 _ => 2 * i + 3 - (intOf s5).toNat)
    case atStart => exact ⟨2 * i + 1, i, by go_num, rfl, ⟨hi, by omega, .inl rfl, leE_refl _, fun j _ _ hp hc => by omega⟩, h, hk⟩
    case round =>
      clear h hk
      obtain ⟨c, m, rfl, rfl, hls, h, hk⟩ := hrel
      obtain ⟨hm, ⟨hc1, hc2⟩, hown, hle, hch⟩ := hls
      have HCH := Lib.hid hch
      have HOW := Lib.hid hown
      have HLE := Lib.hid hle
      clear hch hown hle
      obtain ⟨A, cp, mb, hq⟩ := h
      have c1 := hq.c1
      have h : Hp F wr g E' hd tn := ⟨A, cp, mb, hq⟩
      clear hq
      have cc0 : (0 : Int) ≤ (c : Int) := by omega
      have cc1 : (c : Int) ≤ 3000 := by omega
      have m0 : (0 : Int) ≤ (m : Int) := by omega
      have m1 : (m : Int) ≤ 1000 := by omega
      by_cases hin : c ≤ 2 * i + 2 ∧ c < E'.length
      · obtain ⟨hin1, hin2⟩ := hin
        have t1 : (c : Int) ≤ 2 * (i : Int) + 2 := by omega
        have t2 : (c : Int) < (E'.length : Int) := by omega
        have HA := Lib.hid (ahead_any F g E' hd tn c m wr h hin2 hm)
        cases ha : ltE (atE E' c) (atE E' m)
        · rw [ha] at HA
          have hn : Hid (LsI E' i (c + 1) m) := ⟨hm, by omega, HOW.out, HLE.out, fun j hj hj0 hp hjc => by
            by_cases hjc2 : j < c
            · exact HCH.out j hj hj0 hp hjc2
            · obtain rfl : j = c := by omega
              exact not_lt ha⟩
          clear ha
          go_wp2_with fail
          refine HA.out.mono ?_
          rintro e w2 ⟨rfl, hb⟩
          have h2 := h.keep hb
          have hk2 := hk.trans (h.kp hb)
          clear h hk hb c1
          go_wp2_with fail
          go_roundw
          case rel => exact ⟨c + 1, m, by go_num, rfl, hn.out, h2, hk2⟩
          case measure => simp [intOf]; omega
        · rw [ha] at HA
          have hn : Hid (LsI E' i (c + 1) c) := ⟨hin2, by omega, .inr (by omega), leE_trans (lt_le ha) HLE.out, fun j hj hj0 hp hjc => by
            by_cases hjc2 : j < c
            · exact leE_trans (lt_le ha) (HCH.out j hj hj0 hp hjc2)
            · obtain rfl : j = c := by omega
              exact leE_refl _⟩
          clear ha
          go_wp2_with fail
          refine HA.out.mono ?_
          rintro e w2 ⟨rfl, hb⟩
          have h2 := h.keep hb
          have hk2 := hk.trans (h.kp hb)
          clear h hk hb c1
          go_wp2_with fail
          go_roundw
          case rel => exact ⟨c + 1, c, by go_num, rfl, hn.out, h2, hk2⟩
          case measure => simp [intOf]; omega
      · have hall : ∀ j, j < E'.length → 0 < j → (j - 1) / 2 = i → leE (atE E' m) (atE E' j) := fun j hj hj0 hp => HCH.out j hj hj0 hp (by omega)
        have HALL := Lib.hid hall
        clear hall
        by_cases hmi : m = i
        · have hfin : Hid (HeapB E') := down_end HU.out (by rw [← hmi]; rw [← hmi] at HALL; exact HALL.out)
          obtain rfl := hmi
          by_cases t1 : (c : Int) ≤ 2 * (m : Int) + 2
          · have t2 : ¬ (c : Int) < (E'.length : Int) := by omega
            go_wp2_with fail
            go_end0
            exact ⟨rfl, ⟨E', h, HP.out, hfin.out⟩, hk⟩
          · go_wp2_with fail
            go_end0
            exact ⟨rfl, ⟨E', h, HP.out, hfin.out⟩, hk⟩
        · have hbm : ((m : Int) == (i : Int)) = false := by simp; omega
          have hmc := HOW.out.resolve_left hmi
          have HS := Lib.hid (fun W hW => swap_any F g E' hd tn i m W hW hi hm (fun e => hmi e.symm))
          have hst : Hid (DownI (swapE E' i m) m) := down_step hm hmc.1 hmc.2 HU.out HLE.out HALL.out
          have hpr : Hid ((swapE E' i m).Perm E) := (swapE_perm hi hm).trans HP.out
          have hsl := swapE_len E' i m
          have HSL : Hid (m < (swapE E' i m).length ∧ (swapE E' i m).length ≤ 1000 ∧ (swapE E' i m).length = E.length ∧ i < m ∧ m < E.length) := by unfold Hid; rw [hsl]; exact ⟨hm, hl, HLEN.out, by omega, by rw [← HLEN.out]; exact hm⟩
          clear hsl hmi hmc
          by_cases t1 : (c : Int) ≤ 2 * (i : Int) + 2
          · have t2 : ¬ (c : Int) < (E'.length : Int) := by omega
            go_wp2_with fail
            refine (HS.out _ h).mono ?_
            rintro e w3 ⟨rfl, ⟨_, h3, rfl⟩, hk3⟩
            go_wp2_with fail
            go_roundw
            case rel => exact ⟨m, _, rfl, HSL.out.1, h3, hpr.out, hst.out, HSL.out.2.1, HSL.out.2.2.1, hk.trans hk3⟩
            case measure => have := HSL.out.2.2.2; simp [intOf]; omega
          · go_wp2_with fail
            refine (HS.out _ h).mono ?_
            rintro e w3 ⟨rfl, ⟨_, h3, rfl⟩, hk3⟩
            go_wp2_with fail
            go_roundw
            case rel => exact ⟨m, _, rfl, HSL.out.1, h3, hpr.out, hst.out, HSL.out.2.1, HSL.out.2.2.1, hk.trans hk3⟩
            case measure => have := HSL.out.2.2.2; simp [intOf]; omega
end Go.Proofs.Ytlkgmedenbfhkaa
