/- Walks: the worst stretch, and the statement FitSlacks. -/
import Derived.Test.YtojccjdldmjfgaaW3
namespace Go.Proofs.Ytojccjdldmjfgaa
open Go.RowKit

/-- what is left -/
def leftV (l : List Tk) (s : List Int) (b p : Int) (x : Int) : Int := Sup.leastI b p x - needV l s x
/-- the place of the first least one of the first k -/
def bestI (f : Int → Int) (xs : List Int) : Nat → Nat
  | 0 => 0
  | k + 1 => if k = 0 then 0 else if f (xs.getD k 0) < f (xs.getD (bestI f xs k) 0) then k else bestI f xs k
theorem bestI_lt (f : Int → Int) (xs : List Int) : ∀ k, 1 ≤ k → bestI f xs k < k
  | 0, h => by omega
  | k + 1, _ => by
    rw [bestI]
    by_cases h0 : k = 0
    · rw [if_pos h0]; omega
    · rw [if_neg h0]
      have := bestI_lt f xs k (by omega)
      split <;> omega
theorem bestI_one (f : Int → Int) (xs : List Int) : bestI f xs 1 = 0 := by simp [bestI]
theorem bestI_yes {f : Int → Int} {xs : List Int} {k : Nat} (h0 : 1 ≤ k) (h : f (xs.getD k 0) < f (xs.getD (bestI f xs k) 0)) : bestI f xs (k + 1) = k := by rw [bestI, if_neg (by omega), if_pos h]
theorem bestI_no {f : Int → Int} {xs : List Int} {k : Nat} (h0 : 1 ≤ k) (h : ¬ f (xs.getD k 0) < f (xs.getD (bestI f xs k) 0)) : bestI f xs (k + 1) = bestI f xs k := by rw [bestI, if_neg (by omega), if_neg h]
theorem getD_eq {xs : List Int} {k : Nat} (h : k < xs.length) : xs.getD k 0 = xs[k] := by rw [List.getD_eq_getElem?_getD, List.getElem?_eq_getElem h]; rfl
def slackT (f : Int → Int) (xs : List Int) : Value := if xs.length = 0 then .tuple #[.int .i64 0, .int .i64 0, .int .i64 6] else .tuple #[.int .i64 (xs.getD (bestI f xs xs.length) 0), .int .i64 (f (xs.getD (bestI f xs xs.length) 0)), .int .i64 0]

section
variable (A : Option Addr) (l : List Tk) (c : Nat) (S : Option Addr) (s : List Int) (d : Nat)
set_option maxHeartbeats 1000000 in
theorem fSlack_no (b p n : Int) (w : World) (hs : Sl eT 3 w A l) (hm : l.length ≤ 9223372036854775807) (hz : Sl eI 1 w S s) (hmz : s.length ≤ 9223372036854775807) (h : (rightF l s b p && strT n) = false) :
    Calls Try.prog 18 #[.slice A l.length c, .slice S s.length d, .agg #[.int .i64 b, .int .i64 p], .int .i64 n] w fun e w' => e = .returned (.tuple #[.int .i64 0, .int .i64 0, .int .i64 1]) ∧ Below w.heap.size w w' := by
  have hB := below1 w (Obj.cells #[.int .i64 b, .int .i64 p] 31)
  have HR := Lib.hid (fRight_any A l c S s d b p _ (hs.keep hB) hm (hz.keep hB) hmz)
  have HS := Lib.hid (fun W => fStretch_any n W)
  generalize rightF l s b p = r at *
  generalize strT n = q at *
  cases r
  · go_enter Try.func18, Try.ntmps18
    go_wp2_with (first | (go_at_call 12; (with_reducible refine HR.out.mono ?_); rintro e w2 ⟨rfl, hb⟩; replace hB := bstep hB (Nat.le_refl _) hb; clear hb) | (go_at_call 24; (with_reducible refine (HS.out _).mono ?_); rintro e w2 ⟨rfl, rfl⟩))
    go_ret3
    exact ⟨rfl, hB⟩
  · simp at h
    subst h
    go_enter Try.func18, Try.ntmps18
    go_wp2_with (first | (go_at_call 12; (with_reducible refine HR.out.mono ?_); rintro e w2 ⟨rfl, hb⟩; replace hB := bstep hB (Nat.le_refl _) hb; clear hb) | (go_at_call 24; (with_reducible refine (HS.out _).mono ?_); rintro e w2 ⟨rfl, rfl⟩))
    go_ret3
    exact ⟨rfl, hB⟩

set_option maxRecDepth 100000 in
set_option maxHeartbeats 4000000 in
theorem fSlack_yes (b p : Int) (u : Nat) (w : World) (hs : Sl eT 3 w A l) (hm : l.length ≤ 9223372036854775807) (hz : Sl eI 1 w S s) (hmz : s.length ≤ 9223372036854775807) (h : RightF l s b p) (hu : u ≤ 1048576) :
    Calls Try.prog 18 #[.slice A l.length c, .slice S s.length d, .agg #[.int .i64 b, .int .i64 p], .int .i64 u] w fun e w' => e = .returned (slackT (leftV l s b p) (ptsTo l (u + 1))) ∧ Below w.heap.size w w' := by
  have hB := below1 w (Obj.cells #[.int .i64 b, .int .i64 p] 31)
  have bk := Blk.new w 31 #[.int .i64 b, .int .i64 p]
  have HR := Lib.hid (fun W hW hW2 => fRight_any A l c S s d b p W hW hm hW2 hmz)
  rw [rightF_mk h] at HR
  have hst : strT (u : Int) = true := decide_eq_true ⟨by omega, by omega⟩
  have HS := Lib.hid (fun W => fStretch_any (u : Int) W)
  rw [hst] at HS
  have HP := Lib.hid (fun W hW => tPoints_yes A l c u W hW hm h.all hu)
  have H := Lib.hid h
  clear h hst
  have HX := Lib.hid (pts_in (allT_mem H.out.all) hu)
  have hpl := pts_len l (u + 1)
  generalize ptsTo l (u + 1) = xs at *
  have hs1 := hs.keep hB
  have hz1 := hz.keep hB
  have c0 := bk.cell 0 (.int .i64 b) rfl
  have c1 := bk.cell 1 (.int .i64 p) rfl
  go_enter Try.func18, Try.ntmps18
  go_wp2_with fail
  generalize w.alloc (Obj.cells #[.int .i64 b, .int .i64 p] 31) = w1 at *
  refine (HR.out _ hs1 hz1).mono ?_
  rintro e w2 ⟨rfl, hb⟩
  replace hB := bstep hB (Nat.le_refl _) hb
  replace bk := bk.keep hb
  replace hs1 := hs1.keep hb
  replace hz1 := hz1.keep hb
  clear hb c0 c1
  go_wp2_with (go_at_call 24; (with_reducible refine (HS.out _).mono ?_); rintro e w2 ⟨rfl, rfl⟩)
  refine (HP.out _ hs1).mono ?_
  rintro e w3 ⟨O, od, rfl, own, hb⟩
  replace hB := bstep hB (Nat.le_refl _) hb
  replace bk := bk.keep hb
  replace hs1 := hs1.keep hb
  replace hz1 := hz1.keep hb
  clear hb
  have hsp := own.sl eI_ok
  clear own
  by_cases hx0 : xs.length = 0
  · have t0 : ((xs.length : Int) == 0) = true := by rw [hx0]; rfl
    have hv : slackT (leftV l s b p) xs = .tuple #[.int .i64 0, .int .i64 0, .int .i64 6] := by unfold slackT; rw [if_pos hx0]
    clear hx0
    go_wp2_with fail
    go_ret3
    exact ⟨by rw [hv]; rfl, hB⟩
  · have t0 : ((xs.length : Int) == 0) = false := by simp; exact fun e => hx0 (by rw [e]; rfl)
    have HVV : Hid (slackT (leftV l s b p) xs = .tuple #[.int .i64 (xs.getD (bestI (leftV l s b p) xs xs.length) 0), .int .i64 (leftV l s b p (xs.getD (bestI (leftV l s b p) xs xs.length) 0)), .int .i64 0]) := by unfold Hid slackT; rw [if_neg hx0]
    go_wp2_with fail
    go_loopw [8, 9, 33] (fun va vl i wr => ∃ (k : Nat) (at_ ls : Int), k ≤ xs.length ∧ i = .int .i64 k ∧ va = .int .i64 at_ ∧ vl = .int .i64 ls ∧ -8796102459392 ≤ ls ∧ ls ≤ 1099512676352 ∧ Hid (1 ≤ k → at_ = xs.getD (bestI (leftV l s b p) xs k) 0 ∧ ls = leftV l s b p (xs.getD (bestI (leftV l s b p) xs k) 0)) ∧ Below w3.heap.size w3 wr) (fun _ _ i _ => xs.length - (intOf i).toNat)
    case atStart => exact ⟨0, 0, 0, Nat.zero_le _, rfl, rfl, rfl, by omega, by omega, fun h => absurd h (by omega), Below.refl _ _⟩
    case round =>
      obtain ⟨k, at_, ls, hk, rfl, rfl, rfl, hls0, hls1, HM, hb⟩ := hrel
      by_cases hlt : k < xs.length
      · obtain ⟨b1, o1, rfl, e0⟩ := (hsp.keep hb).int_at hlt
        have k0 : (0 : Int) ≤ (k : Int) := by omega
        have k1 : (k : Int) < (xs.length : Int) := by omega
        have hx := HX.out _ (List.getElem_mem hlt)
        have bk2 := bk.keep hb
        have c0 := bk2.cell 0 (.int .i64 b) rfl
        have c1 := bk2.cell 1 (.int .i64 p) rfl
        have hsw := hs1.keep hb
        have hzw := hz1.keep hb
        have hlb := least_bd H.out.res (t := xs[k]) (by omega) hx.2
        have hnb := needV_bd H.out.all H.out.sec H.out.len (n := xs[k]) (by omega) hx.2
        have HN := Lib.hid (fun W hW hW2 => fNeed_yes A l c S s d xs[k] W hW hW2 H.out.all H.out.len H.out.sec (by omega) hx.2)
        have HL := Lib.hid (fun W => Sup.least_yes b p xs[k] W H.out.res.1 H.out.res.2.1 H.out.res.2.2 (by omega) hx.2)
        have HG := Lib.hid (getD_eq hlt)
        have HFV : Hid (leftV l s b p xs[k] = Sup.leastI b p xs[k] - needV l s xs[k]) := rfl
        have HY1 := Lib.hid (fun h0 h => bestI_yes (f := leftV l s b p) (xs := xs) (k := k) h0 h)
        have HY2 := Lib.hid (fun h0 h => bestI_no (f := leftV l s b p) (xs := xs) (k := k) h0 h)
        rw [HG.out] at HY1 HY2
        generalize Sup.leastI b p xs[k] = L at *
        generalize needV l s xs[k] = D at *
        generalize xs[k] = x at *
        by_cases hk0 : k = 0
        · have HM2 : Hid (1 ≤ k + 1 → x = xs.getD (bestI (leftV l s b p) xs (k + 1)) 0 ∧ L - D = leftV l s b p (xs.getD (bestI (leftV l s b p) xs (k + 1)) 0)) := fun _ => by
            rw [hk0, bestI_one, ← hk0, HG.out, HFV.out]
            exact ⟨rfl, rfl⟩
          have t1 : ((k : Int) == 0) = true := by rw [hk0]; rfl
          clear hk0 HY1 HY2 HM
          go_wp2_with (first | (go_at_call 27; (with_reducible refine (HL.out _).mono ?_); rintro e w4 ⟨rfl, hb4⟩; replace hb := bstep hb (Nat.le_refl _) hb4; replace hsw := hsw.keep hb4; replace hzw := hzw.keep hb4; clear hb4) | (go_at_call 26; (with_reducible refine (HN.out _ hsw hzw).mono ?_); rintro e w4 ⟨rfl, hb4⟩; replace hb := bstep hb (Nat.le_refl _) hb4; clear hb4))
          go_roundw
          case rel => exact ⟨k + 1, x, L - D, by omega, by go_num, rfl, rfl, by omega, by omega, HM2.out, hb⟩
          case measure => simp [intOf]; omega
        · have t1 : ((k : Int) == 0) = false := by simp; omega
          obtain ⟨hm1, hm2⟩ := HM.out (by omega)
          rw [← hm1, HFV.out] at HY1 HY2
          rw [← hm1] at hm2
          rw [← hm2] at HY1 HY2
          have HM1 := Lib.hid hm1
          have HM3 := Lib.hid hm2
          clear hm1 hm2 HM
          by_cases hlt2 : L - D < ls
          · have HM2 : Hid (1 ≤ k + 1 → x = xs.getD (bestI (leftV l s b p) xs (k + 1)) 0 ∧ L - D = leftV l s b p (xs.getD (bestI (leftV l s b p) xs (k + 1)) 0)) := fun _ => by
              rw [HY1.out (by omega) hlt2, HG.out, HFV.out]
              exact ⟨rfl, rfl⟩
            clear HY1 HY2
            go_wp2_with (first | (go_at_call 27; (with_reducible refine (HL.out _).mono ?_); rintro e w4 ⟨rfl, hb4⟩; replace hb := bstep hb (Nat.le_refl _) hb4; replace hsw := hsw.keep hb4; replace hzw := hzw.keep hb4; clear hb4) | (go_at_call 26; (with_reducible refine (HN.out _ hsw hzw).mono ?_); rintro e w4 ⟨rfl, hb4⟩; replace hb := bstep hb (Nat.le_refl _) hb4; clear hb4))
            go_roundw
            case rel => exact ⟨k + 1, x, L - D, by omega, by go_num, rfl, rfl, by omega, by omega, HM2.out, hb⟩
            case measure => simp [intOf]; omega
          · have HM2 : Hid (1 ≤ k + 1 → at_ = xs.getD (bestI (leftV l s b p) xs (k + 1)) 0 ∧ ls = leftV l s b p (xs.getD (bestI (leftV l s b p) xs (k + 1)) 0)) := fun _ => by
              rw [HY2.out (by omega) hlt2, ← HM1.out]
              exact ⟨rfl, HM3.out⟩
            clear HY1 HY2
            go_wp2_with (first | (go_at_call 27; (with_reducible refine (HL.out _).mono ?_); rintro e w4 ⟨rfl, hb4⟩; replace hb := bstep hb (Nat.le_refl _) hb4; replace hsw := hsw.keep hb4; replace hzw := hzw.keep hb4; clear hb4) | (go_at_call 26; (with_reducible refine (HN.out _ hsw hzw).mono ?_); rintro e w4 ⟨rfl, hb4⟩; replace hb := bstep hb (Nat.le_refl _) hb4; clear hb4))
            go_roundw
            case rel => exact ⟨k + 1, at_, ls, by omega, by go_num, rfl, rfl, by omega, by omega, HM2.out, hb⟩
            case measure => simp [intOf]; omega
      · obtain rfl : k = xs.length := by omega
        obtain ⟨hm1, hm2⟩ := HM.out (by omega)
        have HM1 := Lib.hid hm1
        have HM2 := Lib.hid hm2
        clear hm1 hm2 HM
        go_wp2_with fail
        go_ret3
        refine ⟨?_, bstep hB (Nat.le_refl _) hb⟩
        rw [HVV.out, ← HM2.out, ← HM1.out]
        rfl
def slackVal (b p n : Int) : Value := if rightF l s b p && strT n then slackT (leftV l s b p) (ptsTo l (n.toNat + 1)) else .tuple #[.int .i64 0, .int .i64 0, .int .i64 1]
theorem fSlack_any (b p n : Int) (w : World) (hs : Sl eT 3 w A l) (hm : l.length ≤ 9223372036854775807) (hz : Sl eI 1 w S s) (hmz : s.length ≤ 9223372036854775807) :
    Calls Try.prog 18 #[.slice A l.length c, .slice S s.length d, .agg #[.int .i64 b, .int .i64 p], .int .i64 n] w fun e w' => e = .returned (slackVal l s b p n) ∧ Below w.heap.size w w' := by
  unfold slackVal
  cases h : (rightF l s b p && strT n)
  · exact fSlack_no A l c S s d b p n w hs hm hz hmz h
  · rw [Bool.and_eq_true] at h
    have h2 := of_decide_eq_true h.2
    obtain ⟨u, rfl⟩ := Int.eq_ofNat_of_zero_le h2.1
    exact fSlack_yes A l c S s d b p u w hs hm hz hmz (rightF_t h.1) (by omega)
end

set_option maxRecDepth 100000 in
set_option maxHeartbeats 4000000 in
theorem slacks_any (A : Option Addr) (l : List Tk) (c : Nat) (S : Option Addr) (s : List Int) (d : Nat) (b p n : Int) (w : World) (hs : Sl eT 3 w A l) (hm : l.length ≤ 9223372036854775807) (hz : Sl eI 1 w S s) (hmz : s.length ≤ 9223372036854775807) :
    Calls Try.prog 5 #[.slice A l.length c, .slice S s.length d, .agg #[.int .i64 b, .int .i64 p], .int .i64 n] w fun e w' => e = .returned (.bool true) ∧ Below w.heap.size w w' := by
  have hB := below1 w (Obj.cells #[.int .i64 b, .int .i64 p] 25)
  have bk := Blk.new w 25 #[.int .i64 b, .int .i64 p]
  have hs1 := hs.keep hB
  have hz1 := hz.keep hB
  have c0 := bk.cell 0 (.int .i64 b) rfl
  have c1 := bk.cell 1 (.int .i64 p) rfl
  clear bk
  have HF := Lib.hid (fun W => few_any A l.length c S s.length d n W)
  cases hf : fewB l.length s.length n
  · rw [hf] at HF
    go_enter Try.func5, Try.ntmps5
    go_wp2_with (first | (go_at_call 7; (with_reducible refine (HF.out _).mono ?_); rintro e w5 ⟨rfl, rfl⟩) | (go_at_call 8; (with_reducible refine (awake_any _).mono ?_); rintro e w5 ⟨rfl, hb⟩; replace hs1 := hs1.keep hb; replace hz1 := hz1.keep hb; replace hB := bstep hB (Nat.le_refl _) hb; replace c0 := kcell hb c0; replace c1 := kcell hb c1; clear hb))
    go_ret
    exact ⟨rfl, hB⟩
  · rw [hf] at HF
    have HI := Lib.hid (fun W hW hW2 => fSlack_any A l c S s d b p n W hW hm hW2 hmz)
    have HQ := Lib.hid (fun W hW hW2 => rRight_any A l c S s d b p W hW hm hW2 hmz)
    unfold slackVal at HI
    cases hr : rightF l s b p
    · rw [hr] at HI HQ
      simp only [Bool.false_and, Bool.false_eq_true, if_false] at HI
      go_enter Try.func5, Try.ntmps5
      go_wp2_with (first | (go_at_call 7; (with_reducible refine (HF.out _).mono ?_); rintro e w5 ⟨rfl, rfl⟩) | (go_at_call 8; (with_reducible refine (awake_any _).mono ?_); rintro e w5 ⟨rfl, hb⟩; replace hs1 := hs1.keep hb; replace hz1 := hz1.keep hb; replace hB := bstep hB (Nat.le_refl _) hb; replace c0 := kcell hb c0; replace c1 := kcell hb c1; clear hb) | (go_at_call 10; (with_reducible refine (to_any _ _ _).mono ?_); rintro e w5 ⟨rfl, hb⟩; replace hs1 := hs1.keep hb; replace hz1 := hz1.keep hb; replace hB := bstep hB (Nat.le_refl _) hb; replace c0 := kcell hb c0; replace c1 := kcell hb c1; clear hb) | (go_at_call 18; (with_reducible refine (HI.out _ hs1 hz1).mono ?_); rintro e w5 ⟨rfl, hb⟩; replace hs1 := hs1.keep hb; replace hz1 := hz1.keep hb; replace hB := bstep hB (Nat.le_refl _) hb; replace c0 := kcell hb c0; replace c1 := kcell hb c1; clear hb) | (go_at_call 11; (with_reducible refine (HQ.out _ hs1 hz1).mono ?_); rintro e w5 ⟨rfl, hb⟩; replace hs1 := hs1.keep hb; replace hz1 := hz1.keep hb; replace hB := bstep hB (Nat.le_refl _) hb; replace c0 := kcell hb c0; replace c1 := kcell hb c1; clear hb))
      go_ret
      exact ⟨rfl, hB⟩
    · rw [hr] at HI HQ
      have H := rightF_t hr
      by_cases h0 : n < 0
      · have hst : strT n = false := decide_eq_false (by omega)
        rw [hst] at HI
        simp only [Bool.and_false, Bool.false_eq_true, if_false] at HI
        go_enter Try.func5, Try.ntmps5
        go_wp2_with (first | (go_at_call 7; (with_reducible refine (HF.out _).mono ?_); rintro e w5 ⟨rfl, rfl⟩) | (go_at_call 8; (with_reducible refine (awake_any _).mono ?_); rintro e w5 ⟨rfl, hb⟩; replace hs1 := hs1.keep hb; replace hz1 := hz1.keep hb; replace hB := bstep hB (Nat.le_refl _) hb; replace c0 := kcell hb c0; replace c1 := kcell hb c1; clear hb) | (go_at_call 10; (with_reducible refine (to_any _ _ _).mono ?_); rintro e w5 ⟨rfl, hb⟩; replace hs1 := hs1.keep hb; replace hz1 := hz1.keep hb; replace hB := bstep hB (Nat.le_refl _) hb; replace c0 := kcell hb c0; replace c1 := kcell hb c1; clear hb) | (go_at_call 18; (with_reducible refine (HI.out _ hs1 hz1).mono ?_); rintro e w5 ⟨rfl, hb⟩; replace hs1 := hs1.keep hb; replace hz1 := hz1.keep hb; replace hB := bstep hB (Nat.le_refl _) hb; replace c0 := kcell hb c0; replace c1 := kcell hb c1; clear hb) | (go_at_call 11; (with_reducible refine (HQ.out _ hs1 hz1).mono ?_); rintro e w5 ⟨rfl, hb⟩; replace hs1 := hs1.keep hb; replace hz1 := hz1.keep hb; replace hB := bstep hB (Nat.le_refl _) hb; replace c0 := kcell hb c0; replace c1 := kcell hb c1; clear hb))
        go_ret
        exact ⟨rfl, hB⟩
      · by_cases h1 : 1048576 < n
        · have hst : strT n = false := decide_eq_false (by omega)
          rw [hst] at HI
          simp only [Bool.and_false, Bool.false_eq_true, if_false] at HI
          go_enter Try.func5, Try.ntmps5
          go_wp2_with (first | (go_at_call 7; (with_reducible refine (HF.out _).mono ?_); rintro e w5 ⟨rfl, rfl⟩) | (go_at_call 8; (with_reducible refine (awake_any _).mono ?_); rintro e w5 ⟨rfl, hb⟩; replace hs1 := hs1.keep hb; replace hz1 := hz1.keep hb; replace hB := bstep hB (Nat.le_refl _) hb; replace c0 := kcell hb c0; replace c1 := kcell hb c1; clear hb) | (go_at_call 10; (with_reducible refine (to_any _ _ _).mono ?_); rintro e w5 ⟨rfl, hb⟩; replace hs1 := hs1.keep hb; replace hz1 := hz1.keep hb; replace hB := bstep hB (Nat.le_refl _) hb; replace c0 := kcell hb c0; replace c1 := kcell hb c1; clear hb) | (go_at_call 18; (with_reducible refine (HI.out _ hs1 hz1).mono ?_); rintro e w5 ⟨rfl, hb⟩; replace hs1 := hs1.keep hb; replace hz1 := hz1.keep hb; replace hB := bstep hB (Nat.le_refl _) hb; replace c0 := kcell hb c0; replace c1 := kcell hb c1; clear hb) | (go_at_call 11; (with_reducible refine (HQ.out _ hs1 hz1).mono ?_); rintro e w5 ⟨rfl, hb⟩; replace hs1 := hs1.keep hb; replace hz1 := hz1.keep hb; replace hB := bstep hB (Nat.le_refl _) hb; replace c0 := kcell hb c0; replace c1 := kcell hb c1; clear hb))
          go_ret
          exact ⟨rfl, hB⟩
        · have hst : strT n = true := decide_eq_true (by omega)
          rw [hst] at HI
          simp only [Bool.and_self, if_true] at HI
          obtain ⟨u, rfl⟩ := Int.eq_ofNat_of_zero_le (show 0 ≤ n by omega)
          rw [Int.toNat_natCast] at HI
          have HP := Lib.hid (fun W hW => qPoints_yes A l c u W hW H.all (by omega))
          have HX := Lib.hid (pts_in (allT_mem H.all) (u := u) (by omega))
          have hpl := pts_len l (u + 1)
          have hu0 : (0 : Int) ≤ (u : Int) := by omega
          have hu1 : (u : Int) ≤ 1048576 := by omega
          have HH := Lib.hid H
          clear H hr hst h0 h1
          generalize ptsTo l (u + 1) = xs at *
          by_cases hx0 : xs.length = 0
          · have t0 : ((xs.length : Int) == 0) = true := by rw [hx0]; rfl
            have hv : slackT (leftV l s b p) xs = .tuple #[.int .i64 0, .int .i64 0, .int .i64 6] := by unfold slackT; rw [if_pos hx0]
            rw [hv] at HI
            clear hx0
            go_enter Try.func5, Try.ntmps5
            go_wp2_with (first | (go_at_call 7; (with_reducible refine (HF.out _).mono ?_); rintro e w5 ⟨rfl, rfl⟩) | (go_at_call 8; (with_reducible refine (awake_any _).mono ?_); rintro e w5 ⟨rfl, hb⟩; replace hs1 := hs1.keep hb; replace hz1 := hz1.keep hb; replace hB := bstep hB (Nat.le_refl _) hb; replace c0 := kcell hb c0; replace c1 := kcell hb c1; clear hb) | (go_at_call 10; (with_reducible refine (to_any _ _ _).mono ?_); rintro e w5 ⟨rfl, hb⟩; replace hs1 := hs1.keep hb; replace hz1 := hz1.keep hb; replace hB := bstep hB (Nat.le_refl _) hb; replace c0 := kcell hb c0; replace c1 := kcell hb c1; clear hb) | (go_at_call 18; (with_reducible refine (HI.out _ hs1 hz1).mono ?_); rintro e w5 ⟨rfl, hb⟩; replace hs1 := hs1.keep hb; replace hz1 := hz1.keep hb; replace hB := bstep hB (Nat.le_refl _) hb; replace c0 := kcell hb c0; replace c1 := kcell hb c1; clear hb) | (go_at_call 11; (with_reducible refine (HQ.out _ hs1 hz1).mono ?_); rintro e w5 ⟨rfl, hb⟩; replace hs1 := hs1.keep hb; replace hz1 := hz1.keep hb; replace hB := bstep hB (Nat.le_refl _) hb; replace c0 := kcell hb c0; replace c1 := kcell hb c1; clear hb) | (go_at_call 19; (with_reducible refine (HP.out _ hs1).mono ?_); rintro e w5 ⟨O, od, rfl, own, hb⟩; replace hs1 := hs1.keep hb; replace hz1 := hz1.keep hb; replace hB := bstep hB (Nat.le_refl _) hb; replace c0 := kcell hb c0; replace c1 := kcell hb c1; clear hb))
            go_ret
            exact ⟨rfl, hB⟩
          · have t0 : ((xs.length : Int) == 0) = false := by simp; exact fun e => hx0 (by rw [e]; rfl)
            have hv : slackT (leftV l s b p) xs = .tuple #[.int .i64 (xs.getD (bestI (leftV l s b p) xs xs.length) 0), .int .i64 (leftV l s b p (xs.getD (bestI (leftV l s b p) xs xs.length) 0)), .int .i64 0] := by unfold slackT; rw [if_neg hx0]
            rw [hv] at HI
            clear hv
            have hbl := bestI_lt (leftV l s b p) xs xs.length (by omega)
            have HG := Lib.hid (getD_eq hbl)
            rw [HG.out] at HI
            have HFIN : Hid (leftV l s b p xs[bestI (leftV l s b p) xs xs.length] = Sup.leastI b p xs[bestI (leftV l s b p) xs xs.length] - needV l s xs[bestI (leftV l s b p) xs xs.length]) := rfl
            rw [HFIN.out] at HI
            have hxB := HX.out _ (List.getElem_mem hbl)
            have HNB := Lib.hid (fun W hW hW2 => rNeeds_yes A l c S s d xs[bestI (leftV l s b p) xs xs.length] W hW hW2 HH.out.all HH.out.len HH.out.sec (by omega) hxB.2)
            have HLB := Lib.hid (fun W => Sup.refLeast_any b p xs[bestI (leftV l s b p) xs xs.length] W HH.out.res.1 HH.out.res.2.1 HH.out.res.2.2 (by omega) hxB.2)
            have hlbB := least_bd HH.out.res (t := xs[bestI (leftV l s b p) xs xs.length]) (by omega) hxB.2
            have hnbB := needV_bd HH.out.all HH.out.sec HH.out.len (n := xs[bestI (leftV l s b p) xs xs.length]) (by omega) hxB.2
            go_enter Try.func5, Try.ntmps5
            go_wp2_with (first | (go_at_call 7; (with_reducible refine (HF.out _).mono ?_); rintro e w5 ⟨rfl, rfl⟩) | (go_at_call 8; (with_reducible refine (awake_any _).mono ?_); rintro e w5 ⟨rfl, hb⟩; replace hs1 := hs1.keep hb; replace hz1 := hz1.keep hb; replace hB := bstep hB (Nat.le_refl _) hb; replace c0 := kcell hb c0; replace c1 := kcell hb c1; clear hb) | (go_at_call 10; (with_reducible refine (to_any _ _ _).mono ?_); rintro e w5 ⟨rfl, hb⟩; replace hs1 := hs1.keep hb; replace hz1 := hz1.keep hb; replace hB := bstep hB (Nat.le_refl _) hb; replace c0 := kcell hb c0; replace c1 := kcell hb c1; clear hb) | (go_at_call 18; (with_reducible refine (HI.out _ hs1 hz1).mono ?_); rintro e w5 ⟨rfl, hb⟩; replace hs1 := hs1.keep hb; replace hz1 := hz1.keep hb; replace hB := bstep hB (Nat.le_refl _) hb; replace c0 := kcell hb c0; replace c1 := kcell hb c1; clear hb) | (go_at_call 11; (with_reducible refine (HQ.out _ hs1 hz1).mono ?_); rintro e w5 ⟨rfl, hb⟩; replace hs1 := hs1.keep hb; replace hz1 := hz1.keep hb; replace hB := bstep hB (Nat.le_refl _) hb; replace c0 := kcell hb c0; replace c1 := kcell hb c1; clear hb))
            refine (HP.out _ hs1).mono ?_
            rintro e w6 ⟨O, od, rfl, own, hb⟩
            replace hs1 := hs1.keep hb; replace hz1 := hz1.keep hb; replace hB := bstep hB (Nat.le_refl _) hb; replace c0 := kcell hb c0; replace c1 := kcell hb c1; clear hb
            have hsp := own.sl eI_ok
            clear own
            go_wp2_with fail
            go_loopw [13, 14] (fun vb i wr => ∃ (k : Nat), 1 ≤ k ∧ k ≤ xs.length ∧ i = .int .i64 k ∧ vb = .int .i64 (bestI (leftV l s b p) xs k : Nat) ∧ Below w6.heap.size w6 wr) (fun _ i _ => xs.length - (intOf i).toNat)
            case atStart => exact ⟨1, by omega, by omega, rfl, by rw [bestI_one]; rfl, Below.refl _ _⟩
            case round =>
              obtain ⟨k, hk0, hk, rfl, rfl, hb⟩ := hrel
              have hbk := bestI_lt (leftV l s b p) xs k hk0
              by_cases hlt : k < xs.length
              · have hmb : bestI (leftV l s b p) xs k < xs.length := by omega
                have HY1 := Lib.hid (fun h => bestI_yes (f := leftV l s b p) (xs := xs) (k := k) hk0 h)
                have HY2 := Lib.hid (fun h => bestI_no (f := leftV l s b p) (xs := xs) (k := k) hk0 h)
                generalize bestI (leftV l s b p) xs k = m at *
                rw [getD_eq hlt, getD_eq hmb] at HY1 HY2
                obtain ⟨b1, o1, hO1, e0⟩ := (hsp.keep hb).int_at hlt
                obtain ⟨b2, o2, hO2, e1⟩ := (hsp.keep hb).int_at hmb
                rw [hO1] at hO2
                injection hO2 with hO2
                injection hO2 with q1 q2
                subst q1 q2 hO1
                have k0 : (0 : Int) ≤ (k : Int) := by omega
                have k1 : (k : Int) < (xs.length : Int) := by omega
                have m0 : (0 : Int) ≤ (m : Int) := by omega
                have m1 : (m : Int) < (xs.length : Int) := by omega
                have hx := HX.out _ (List.getElem_mem hlt)
                have hy := HX.out _ (List.getElem_mem hmb)
                have d0 := kcell hb c0
                have d1 := kcell hb c1
                have hsw := hs1.keep hb
                have hzw := hz1.keep hb
                have hlb1 := least_bd HH.out.res (t := xs[k]) (by omega) hx.2
                have hnb1 := needV_bd HH.out.all HH.out.sec HH.out.len (n := xs[k]) (by omega) hx.2
                have hlb2 := least_bd HH.out.res (t := xs[m]) (by omega) hy.2
                have hnb2 := needV_bd HH.out.all HH.out.sec HH.out.len (n := xs[m]) (by omega) hy.2
                have HN1 : Hid (∀ mm : Aft wr, Calls Try.prog 21 #[.slice A l.length c, .slice S s.length d, .int .i64 xs[k]] mm.w fun e w' => e = .returned (.int .i64 (needV l s xs[k])) ∧ mm.w = w') := fun mm => rNeeds_yes A l c S s d xs[k] mm.w (hsw.keep mm.ok) (hzw.keep mm.ok) HH.out.all HH.out.len HH.out.sec (by omega) hx.2
                have HN2 : Hid (∀ mm : Aft wr, Calls Try.prog 21 #[.slice A l.length c, .slice S s.length d, .int .i64 xs[m]] mm.w fun e w' => e = .returned (.int .i64 (needV l s xs[m])) ∧ mm.w = w') := fun mm => rNeeds_yes A l c S s d xs[m] mm.w (hsw.keep mm.ok) (hzw.keep mm.ok) HH.out.all HH.out.len HH.out.sec (by omega) hy.2
                have HL1 : Hid (∀ mm : Aft wr, Calls Try.prog 20 #[.agg #[.int .i64 b, .int .i64 p], .int .i64 xs[k]] mm.w fun e w' => e = .returned (.int .i64 (Sup.leastI b p xs[k])) ∧ Below mm.w.heap.size mm.w w') := fun mm => Sup.refLeast_any b p xs[k] mm.w HH.out.res.1 HH.out.res.2.1 HH.out.res.2.2 (by omega) hx.2
                have HL2 : Hid (∀ mm : Aft wr, Calls Try.prog 20 #[.agg #[.int .i64 b, .int .i64 p], .int .i64 xs[m]] mm.w fun e w' => e = .returned (.int .i64 (Sup.leastI b p xs[m])) ∧ Below mm.w.heap.size mm.w w') := fun mm => Sup.refLeast_any b p xs[m] mm.w HH.out.res.1 HH.out.res.2.1 HH.out.res.2.2 (by omega) hy.2
                have HV1 : Hid (leftV l s b p xs[k] = Sup.leastI b p xs[k] - needV l s xs[k]) := rfl
                have HV2 : Hid (leftV l s b p xs[m] = Sup.leastI b p xs[m] - needV l s xs[m]) := rfl
                rw [HV1.out, HV2.out] at HY1 HY2
                generalize Sup.leastI b p xs[k] = L1 at *
                generalize Sup.leastI b p xs[m] = L2 at *
                generalize needV l s xs[k] = D1 at *
                generalize needV l s xs[m] = D2 at *
                clear HV1 HV2
                generalize xs[k] = x at *
                generalize xs[m] = y at *
                have r1 : IntKind.i64.wrap (L1 - D1) = L1 - D1 := IntWalk.i64_in _ (by omega)
                have r2 : IntKind.i64.wrap (L2 - D2) = L2 - D2 := IntWalk.i64_in _ (by omega)
                go_wp2_with fail
                (have aft_d0 := Aft.cell d0; have aft_d1 := Aft.cell d1; have aft_e0 := Aft.cell e0; have aft_e1 := Aft.cell e1; refine wp_region_aft (by kernel_rfl) (by kernel_rfl) ?_; (repeat (go_big_quiet_step ((first | (go_at_call 21; first | with_reducible exact aft_same (HN1.out _) | with_reducible exact aft_same (HN2.out _)) | (go_at_call 20; first | with_reducible exact aft_call (HL1.out _) | with_reducible exact aft_call (HL2.out _)))))); refine wpQuiet_nil ?_; clear aft_d0 aft_d1 aft_e0 aft_e1; intro w7 hw2_; have hb7 := Aft.below hw2_; clear hw2_)
                replace hb := bstep hb (Nat.le_refl _) hb7
                clear r1 r2
                by_cases hll : L1 - D1 < L2 - D2
                · go_wp2_with fail
                  go_roundw
                  case rel => exact ⟨k + 1, by omega, by omega, by go_num, by rw [HY1.out (by omega)], hb⟩
                  case measure => simp [intOf]; omega
                · go_wp2_with fail
                  go_roundw
                  case rel => exact ⟨k + 1, by omega, by omega, by go_num, by rw [HY2.out (by omega)], hb⟩
                  case measure => simp [intOf]; omega
              · obtain rfl : k = xs.length := by omega
                generalize bestI (leftV l s b p) xs xs.length = m at *
                obtain ⟨b1, o1, rfl, e1⟩ := (hsp.keep hb).int_at hbl
                have m0 : (0 : Int) ≤ (m : Int) := by omega
                have m1 : (m : Int) < (xs.length : Int) := by omega
                have d0 := kcell hb c0
                have d1 := kcell hb c1
                have hsw := hs1.keep hb
                have hzw := hz1.keep hb
                have HN2 : Hid (∀ mm : Aft wr, Calls Try.prog 21 #[.slice A l.length c, .slice S s.length d, .int .i64 xs[m]] mm.w fun e w' => e = .returned (.int .i64 (needV l s xs[m])) ∧ mm.w = w') := fun mm => HNB.out mm.w (hsw.keep mm.ok) (hzw.keep mm.ok)
                have HL2 : Hid (∀ mm : Aft wr, Calls Try.prog 20 #[.agg #[.int .i64 b, .int .i64 p], .int .i64 xs[m]] mm.w fun e w' => e = .returned (.int .i64 (Sup.leastI b p xs[m])) ∧ Below mm.w.heap.size mm.w w') := fun mm => HLB.out mm.w
                generalize Sup.leastI b p xs[m] = L2 at *
                generalize needV l s xs[m] = D2 at *
                generalize xs[m] = y at *
                have r2 : IntKind.i64.wrap (L2 - D2) = L2 - D2 := IntWalk.i64_in _ (by omega)
                go_wp2_with fail
                (have aft_d0 := Aft.cell d0; have aft_d1 := Aft.cell d1; have aft_e1 := Aft.cell e1; refine wp_region_aft (by kernel_rfl) (by kernel_rfl) ?_; (repeat (go_big_quiet_step ((first | (go_at_call 21; with_reducible exact aft_same (HN2.out _)) | (go_at_call 20; with_reducible exact aft_call (HL2.out _)) | (go_at_call 8; with_reducible exact aft_call (awake_any _)))))); refine wpQuiet_nil ?_; clear aft_d0 aft_d1 aft_e1; intro w7 hw2_; have hb7 := Aft.below hw2_; clear hw2_)
                replace hb := bstep hb (Nat.le_refl _) hb7
                go_wp2_with fail
                go_ret
                exact ⟨rfl, bstep hB (Nat.le_refl _) hb⟩
end Go.Proofs.Ytojccjdldmjfgaa
