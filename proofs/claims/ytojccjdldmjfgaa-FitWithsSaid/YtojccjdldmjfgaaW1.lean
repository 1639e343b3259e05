/- Walks: which sets may be, what holds them up, what they need, by the program and by the document. -/
import Derived.Test.YtojccjdldmjfgaaTW5
import Derived.Test.YtojccjdldmjfgaaTW3
import Derived.Test.YtojccjdldmjfgaaBlk
import Derived.Test.YtojccjdldmjfgaaM1
namespace Go.Proofs.Ytojccjdldmjfgaa
open Go.RowKit

set_option maxRecDepth 100000 in
set_option maxHeartbeats 4000000 in
theorem fRight_any (A : Option Addr) (l : List Tk) (c : Nat) (S : Option Addr) (s : List Int) (d : Nat) (b p : Int) (w : World) (hs : Sl eT 3 w A l) (hm : l.length ≤ 9223372036854775807) (hz : Sl eI 1 w S s) (hmz : s.length ≤ 9223372036854775807) :
    Calls Try.prog 12 #[.slice A l.length c, .slice S s.length d, .agg #[.int .i64 b, .int .i64 p]] w fun e w' => e = .returned (.bool (rightF l s b p)) ∧ Below w.heap.size w w' := by
  have hB := below1 w (Obj.cells #[.int .i64 b, .int .i64 p] 31)
  have bk := Blk.new w 31 #[.int .i64 b, .int .i64 p]
  have HA := Lib.hid (tAll_any A l c _ (hs.keep hB) hm)
  have HR := Lib.hid (fun W => Sup.right_any b p W)
  have c0 := bk.cell 0 (.int .i64 b) rfl
  have c1 := bk.cell 1 (.int .i64 p) rfl
  have hv : rightF l s b p = (allT l && decide (s.length ≤ l.length) && Sup.resB b p && secOk l s) := rfl
  cases ha : allT l
  · rw [ha] at hv HA
    rw [hv]
    go_enter Try.func12, Try.ntmps12
    go_wp2_with (go_at_call 30; (with_reducible refine HA.out.mono ?_); rintro e w2 ⟨rfl, hb⟩; replace hB := bstep hB (Nat.le_refl _) hb; clear hb)
    go_ret
    exact ⟨rfl, hB⟩
  · have H := Lib.hid ha
    rw [ha] at hv HA
    clear ha
    by_cases hl : l.length < s.length
    · rw [decide_eq_false (show ¬ s.length ≤ l.length by omega)] at hv
      have hl2 : (l.length : Int) < (s.length : Int) := by omega
      rw [hv]
      go_enter Try.func12, Try.ntmps12
      go_wp2_with (go_at_call 30; (with_reducible refine HA.out.mono ?_); rintro e w2 ⟨rfl, hb⟩; replace hB := bstep hB (Nat.le_refl _) hb; clear hb)
      go_ret
      exact ⟨rfl, hB⟩
    · rw [decide_eq_true (show s.length ≤ l.length by omega)] at hv
      have hl2 : (s.length : Int) ≤ (l.length : Int) := by omega
      have hl3 : s.length ≤ l.length := by omega
      generalize Sup.resB b p = r at *
      cases r
      · simp only [Bool.true_and, Bool.and_false, Bool.false_and] at hv
        rw [hv]
        go_enter Try.func12, Try.ntmps12
        go_wp2_with (first | (go_at_call 30; (with_reducible refine HA.out.mono ?_); rintro e w2 ⟨rfl, hb⟩; replace hB := bstep hB (Nat.le_refl _) hb; replace c0 := kcell hb c0; replace c1 := kcell hb c1; clear hb) | (go_at_call 31; (with_reducible refine (HR.out _).mono ?_); rintro e w3 ⟨rfl, hb⟩; replace hB := bstep hB (Nat.le_refl _) hb; clear hb))
        go_ret
        exact ⟨rfl, hB⟩
      · simp only [Bool.true_and] at hv
        have hs8 := allT_len H.out
        rw [hv]
        clear hv
        go_enter Try.func12, Try.ntmps12
        go_wp2_with (first | (go_at_call 30; (with_reducible refine HA.out.mono ?_); rintro e w2 ⟨rfl, hb⟩; replace hB := bstep hB (Nat.le_refl _) hb; replace c0 := kcell hb c0; replace c1 := kcell hb c1; clear hb) | (go_at_call 31; (with_reducible refine (HR.out _).mono ?_); rintro e w3 ⟨rfl, hb⟩; replace hB := bstep hB (Nat.le_refl _) hb; clear hb))
        have hsW := hs.keep hB
        have hzW := hz.keep hB
        clear c0 c1 bk
        go_loop [26] (fun i => ∃ k : Nat, k ≤ s.length ∧ i = .int .i64 k ∧ Hid (∀ i (h2 : i < s.length), i < k → 0 ≤ s[i] ∧ s[i] ≤ (l[i]'(by omega)).cost)) (fun i => s.length - (intOf i).toNat)
        case atStart => exact ⟨0, Nat.zero_le _, rfl, fun i _ hi => absurd hi (by omega)⟩
        case round =>
          obtain ⟨k, hk, rfl, HM⟩ := hrel
          by_cases hlt : k < s.length
          · have hkl : k < l.length := by omega
            obtain ⟨b1, o1, rfl, e0, e1, e2⟩ := hsW.tk_at hkl
            obtain ⟨b2, o2, rfl, e3⟩ := hzW.int_at hlt
            have k0 : (0 : Int) ≤ (k : Int) := by omega
            have k1 : (k : Int) < (l.length : Int) := by omega
            have k2 : (k : Int) < (s.length : Int) := by omega
            have HN := Lib.hid (secOk_no hkl hlt)
            have HM2 : Hid (0 ≤ s[k] ∧ s[k] ≤ l[k].cost → ∀ i (h2 : i < s.length), i < k + 1 → 0 ≤ s[i] ∧ s[i] ≤ (l[i]'(by omega)).cost) := fun hp i hi hik => by
              by_cases he : i = k
              · subst he; exact hp
              · exact HM.out i hi (by omega)
            clear HM
            generalize l[k] = t at *
            generalize s[k] = x at *
            by_cases h1 : x < 0
            · go_wp2_with fail
              go_ret
              exact ⟨by rw [HN.out (by omega)]; rfl, hB⟩
            · by_cases h2 : t.cost < x
              · go_wp2_with fail
                go_ret
                exact ⟨by rw [HN.out (by omega)]; rfl, hB⟩
              · go_wp2_with fail
                go_round
                case rel => exact ⟨k + 1, by omega, by go_num, HM2.out (by omega)⟩
                case measure => simp [intOf]; omega
          · obtain rfl : k = s.length := by omega
            go_wp2_with fail
            go_ret
            exact ⟨by rw [secOk_yes hl3 (fun i hi => HM.out i hi hi)]; rfl, hB⟩

set_option maxRecDepth 100000 in
set_option maxHeartbeats 4000000 in
theorem rRight_any (A : Option Addr) (l : List Tk) (c : Nat) (S : Option Addr) (s : List Int) (d : Nat) (b p : Int) (w : World) (hs : Sl eT 3 w A l) (hm : l.length ≤ 9223372036854775807) (hz : Sl eI 1 w S s) (hmz : s.length ≤ 9223372036854775807) :
    Calls Try.prog 11 #[.slice A l.length c, .slice S s.length d, .agg #[.int .i64 b, .int .i64 p]] w fun e w' => e = .returned (.bool (rightF l s b p)) ∧ Below w.heap.size w w' := by
  have hB := below1 w (Obj.cells #[.int .i64 b, .int .i64 p] 25)
  have bk := Blk.new w 25 #[.int .i64 b, .int .i64 p]
  have HA := Lib.hid (qAll_any A l c _ (hs.keep hB) hm)
  have HR := Lib.hid (fun W => Sup.refRight_any b p W)
  have c0 := bk.cell 0 (.int .i64 b) rfl
  have c1 := bk.cell 1 (.int .i64 p) rfl
  have hv : rightF l s b p = (allT l && decide (s.length ≤ l.length) && Sup.resB b p && secOk l s) := rfl
  cases ha : allT l
  · rw [ha] at hv HA
    rw [hv]
    go_enter Try.func11, Try.ntmps11
    go_wp2_with (go_at_call 28; (with_reducible refine HA.out.mono ?_); rintro e w2 ⟨rfl, hb⟩; replace hB := bstep hB (Nat.le_refl _) hb; clear hb)
    go_ret
    exact ⟨rfl, hB⟩
  · have H := Lib.hid ha
    rw [ha] at hv HA
    clear ha
    by_cases hl : l.length < s.length
    · rw [decide_eq_false (show ¬ s.length ≤ l.length by omega)] at hv
      have hl2 : (l.length : Int) < (s.length : Int) := by omega
      rw [hv]
      go_enter Try.func11, Try.ntmps11
      go_wp2_with (go_at_call 28; (with_reducible refine HA.out.mono ?_); rintro e w2 ⟨rfl, hb⟩; replace hB := bstep hB (Nat.le_refl _) hb; clear hb)
      go_ret
      exact ⟨rfl, hB⟩
    · rw [decide_eq_true (show s.length ≤ l.length by omega)] at hv
      have hl2 : (s.length : Int) ≤ (l.length : Int) := by omega
      have hl3 : s.length ≤ l.length := by omega
      generalize Sup.resB b p = r at *
      cases r
      · simp only [Bool.true_and, Bool.and_false, Bool.false_and] at hv
        rw [hv]
        go_enter Try.func11, Try.ntmps11
        go_wp2_with (first | (go_at_call 28; (with_reducible refine HA.out.mono ?_); rintro e w2 ⟨rfl, hb⟩; replace hB := bstep hB (Nat.le_refl _) hb; replace c0 := kcell hb c0; replace c1 := kcell hb c1; clear hb) | (go_at_call 29; (with_reducible refine (HR.out _).mono ?_); rintro e w3 ⟨rfl, hb⟩; replace hB := bstep hB (Nat.le_refl _) hb; clear hb))
        go_ret
        exact ⟨rfl, hB⟩
      · simp only [Bool.true_and] at hv
        have hs8 := allT_len H.out
        rw [hv]
        clear hv
        go_enter Try.func11, Try.ntmps11
        go_wp2_with (first | (go_at_call 28; (with_reducible refine HA.out.mono ?_); rintro e w2 ⟨rfl, hb⟩; replace hB := bstep hB (Nat.le_refl _) hb; replace c0 := kcell hb c0; replace c1 := kcell hb c1; clear hb) | (go_at_call 29; (with_reducible refine (HR.out _).mono ?_); rintro e w3 ⟨rfl, hb⟩; replace hB := bstep hB (Nat.le_refl _) hb; clear hb))
        clear c0 c1 bk
        go_loopw [7] (fun i wr => ∃ k : Nat, k ≤ s.length ∧ i = .int .i64 k ∧ Hid (∀ i (h2 : i < s.length), i < k → 0 ≤ s[i] ∧ s[i] ≤ (l[i]'(by omega)).cost) ∧ Below w.heap.size w wr) (fun i _ => s.length - (intOf i).toNat)
        case atStart => exact ⟨0, Nat.zero_le _, rfl, fun i _ hi => absurd hi (by omega), hB⟩
        case round =>
          clear hB
          obtain ⟨k, hk, rfl, HM, hB⟩ := hrel
          by_cases hlt : k < s.length
          · have hkl : k < l.length := by omega
            obtain ⟨b1, o1, rfl, e0, e1, e2⟩ := (hs.keep hB).tk_at hkl
            obtain ⟨b2, o2, rfl, e3⟩ := (hz.keep hB).int_at hlt
            have k0 : (0 : Int) ≤ (k : Int) := by omega
            have k1 : (k : Int) < (l.length : Int) := by omega
            have k2 : (k : Int) < (s.length : Int) := by omega
            have HN := Lib.hid (secOk_no hkl hlt)
            have HM2 : Hid (0 ≤ s[k] ∧ s[k] ≤ l[k].cost → ∀ i (h2 : i < s.length), i < k + 1 → 0 ≤ s[i] ∧ s[i] ≤ (l[i]'(by omega)).cost) := fun hp i hi hik => by
              by_cases he : i = k
              · subst he; exact hp
              · exact HM.out i hi (by omega)
            clear HM
            generalize l[k] = t at *
            generalize s[k] = x at *
            by_cases h1 : x < 0
            · have g1 : decide (x < 0) = true := decide_eq_true h1
              go_wp2_with fail
              go_quiet (fail)
              go_wp2_with fail
              go_ret
              exact ⟨by rw [HN.out (by omega)]; rfl, bdrewN hB _⟩
            · have g1 : decide (x < 0) = false := decide_eq_false h1
              by_cases h2 : t.cost < x
              · go_wp2_with fail
                go_quiet (fail)
                go_wp2_with fail
                go_ret
                exact ⟨by rw [HN.out (by omega)]; rfl, bdrewN hB _⟩
              · go_wp2_with fail
                go_quiet (fail)
                go_wp2_with fail
                go_roundw
                case rel => first | exact ⟨k + 1, by omega, by go_num, HM2.out (by omega), bdrewN hB _⟩ | ((repeat apply Exists.intro); exact ⟨⟨k + 1, by omega, by go_num, HM2.out (by omega), bdrewN hB _⟩, rfl⟩)
                case measure => simp [intOf]; omega
          · obtain rfl : k = s.length := by omega
            go_wp2_with fail
            go_ret
            exact ⟨by rw [secOk_yes hl3 (fun i hi => HM.out i hi hi)]; rfl, hB⟩

set_option maxRecDepth 100000 in
set_option maxHeartbeats 4000000 in
theorem fBlocked_yes (A : Option Addr) (l : List Tk) (c : Nat) (S : Option Addr) (s : List Int) (d : Nat) (n : Int) (w : World) (hs : Sl eT 3 w A l) (hz : Sl eI 1 w S s) (h : allT l = true) (hl : s.length ≤ l.length) (hk : secOk l s = true) :
    Calls Try.prog 15 #[.slice A l.length c, .slice S s.length d, .int .i64 n] w fun e w' => e = .returned (.int .i64 (blkTo l s n s.length)) ∧ Below w.heap.size w w' := by
  have hs8 := allT_len h
  have HE := Lib.hid (blkTo_all (l := l) (s := s) (n := n) (k := l.length) hl)
  have H := Lib.hid h
  have HS := Lib.hid hk
  clear h hk
  go_enter Try.func15, Try.ntmps15
  go_wp2
  go_loopw [7, 12] (fun v i wr => ∃ (k : Nat) (B : Int), k ≤ l.length ∧ i = .int .i64 k ∧ v = .int .i64 B ∧ Hid (B = blkTo l s n k) ∧ Below w.heap.size w wr) (fun _ i _ => l.length - (intOf i).toNat)
  case atStart => exact ⟨0, 0, Nat.zero_le _, rfl, rfl, rfl, Below.refl _ _⟩
  case round =>
    obtain ⟨k, B, hk, rfl, rfl, HB, hB⟩ := hrel
    by_cases hlt : k < l.length
    · obtain ⟨b, off, rfl, c0, c1, c2⟩ := (hs.keep hB).tk_at hlt
      have k0 : (0 : Int) ≤ (k : Int) := by omega
      have k1 : (k : Int) < (l.length : Int) := by omega
      have hB0 := blkTo_ge l s n k
      rw [← HB.out] at hB0
      by_cases hks : k < s.length
      · have hx := secOk_at HS.out hl hks
        obtain ⟨b2, o2, rfl, e3⟩ := (hz.keep hB).int_at hks
        have k2 : (k : Int) < (s.length : Int) := by omega
        have HN : Hid (∀ B', B' = max B (if n < l[k].dead then s[k] else 0) → B' = blkTo l s n (k + 1)) := fun B' h' => by rw [h', blkTo, blkAt_eq hlt hks, HB.out]
        clear HB
        generalize l[k] = t at *
        generalize s[k] = x at *
        by_cases hd : n < t.dead
        · rw [if_pos hd] at HN
          have e4 := kcell (below1 wr (Obj.cells #[.int .i64 t.cost, .int .i64 t.period, .int .i64 t.dead] 40)) e3
          have g1 : ¬ t.cost < x := by omega
          go_wp2_with fail
          go_quiet (fail)
          go_wp2_with fail
          go_roundw
          case rel => exact ⟨k + 1, _, by omega, by go_num, rfl, HN.out _ (by split <;> omega), bdrewN (hB.alloc hB.size _) _⟩
          case measure => simp [intOf]; omega
        · rw [if_neg hd] at HN
          go_wp2_with fail
          go_roundw
          case rel => exact ⟨k + 1, B, by omega, by go_num, rfl, HN.out _ (by omega), hB.alloc hB.size _⟩
          case measure => simp [intOf]; omega
      · have HN : Hid (B = blkTo l s n (k + 1)) := by unfold Hid; rw [blkTo, blkAt_out (by omega), ← HB.out]; omega
        have k2 : (s.length : Int) ≤ (k : Int) := by omega
        clear HB
        generalize l[k] = t at *
        go_wp2_with fail
        go_roundw
        case rel => exact ⟨k + 1, B, by omega, by go_num, rfl, HN.out, hB.alloc hB.size _⟩
        case measure => simp [intOf]; omega
    · obtain rfl : k = l.length := by omega
      go_wp2
      go_ret
      exact ⟨ret_int (by rw [HB.out, HE.out]), hB⟩

set_option maxRecDepth 100000 in
set_option maxHeartbeats 4000000 in
theorem rBlocked_yes (A : Option Addr) (l : List Tk) (c : Nat) (S : Option Addr) (s : List Int) (d : Nat) (n : Int) (w : World) (hs : Sl eT 3 w A l) (hz : Sl eI 1 w S s) (h : allT l = true) (hl : s.length ≤ l.length) :
    Calls Try.prog 16 #[.slice A l.length c, .slice S s.length d, .int .i64 n] w fun e w' => e = .returned (.int .i64 (blkTo l s n s.length)) ∧ w = w' := by
  have hs8 := allT_len h
  clear h
  go_enter Try.func16, Try.ntmps16
  go_wp2
  go_loop [7, 8] (fun v i => ∃ (k : Nat) (B : Int), k ≤ s.length ∧ i = .int .i64 k ∧ v = .int .i64 B ∧ Hid (B = blkTo l s n k)) (fun _ i => s.length - (intOf i).toNat)
  case atStart => exact ⟨0, 0, Nat.zero_le _, rfl, rfl, rfl⟩
  case round =>
    obtain ⟨k, B, hk, rfl, rfl, HB⟩ := hrel
    by_cases hks : k < s.length
    · have hlt : k < l.length := by omega
      obtain ⟨b, off, rfl, c0, c1, c2⟩ := hs.tk_at hlt
      obtain ⟨b2, o2, rfl, e3⟩ := hz.int_at hks
      have k0 : (0 : Int) ≤ (k : Int) := by omega
      have k1 : (k : Int) < (l.length : Int) := by omega
      have k2 : (k : Int) < (s.length : Int) := by omega
      have hB0 := blkTo_ge l s n k
      rw [← HB.out] at hB0
      have HN : Hid (∀ B', B' = max B (if n < l[k].dead then s[k] else 0) → B' = blkTo l s n (k + 1)) := fun B' h' => by rw [h', blkTo, blkAt_eq hlt hks, HB.out]
      clear HB
      generalize l[k] = t at *
      generalize s[k] = x at *
      by_cases hd : n < t.dead
      · rw [if_pos hd] at HN
        by_cases hx : B < x
        · go_wp2_with fail
          go_round
          case rel => exact ⟨k + 1, x, by omega, by go_num, rfl, HN.out _ (by omega)⟩
          case measure => simp [intOf]; omega
        · go_wp2_with fail
          go_round
          case rel => exact ⟨k + 1, B, by omega, by go_num, rfl, HN.out _ (by omega)⟩
          case measure => simp [intOf]; omega
      · rw [if_neg hd] at HN
        go_wp2_with fail
        go_round
        case rel => exact ⟨k + 1, B, by omega, by go_num, rfl, HN.out _ (by omega)⟩
        case measure => simp [intOf]; omega
    · obtain rfl : k = s.length := by omega
      go_wp2
      go_ret
      exact ⟨ret_int HB.out, rfl⟩
end Go.Proofs.Ytojccjdldmjfgaa
