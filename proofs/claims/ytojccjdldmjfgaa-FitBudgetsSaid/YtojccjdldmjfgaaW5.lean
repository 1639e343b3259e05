/- Walks: the least budget, and the statement FitBudgets. -/
import Derived.Test.YtojccjdldmjfgaaW3
namespace Go.Proofs.Ytojccjdldmjfgaa
open Go.RowKit

/-- the least budget that gives so much in so many ticks -/
def smallV (p need t : Int) : Option Int := if need = 0 then some 1 else if t / p - 1 < 1 then none else if p < Sup.upI need (t / p - 1) then none else some (Sup.upI need (t / p - 1))
theorem least_bud {b b' p t : Int} (_h1 : 1 ≤ b) (h2 : b ≤ b') : Sup.leastI b p t ≤ Sup.leastI b' p t := by
  unfold Sup.leastI
  rcases Int.lt_or_le (t / p - 1) 0 with h | h
  · have h3 : b * (t / p - 1) ≤ 0 := Int.mul_nonpos_of_nonneg_of_nonpos (by omega) (by omega)
    omega
  · have h3 : b * (t / p - 1) ≤ b' * (t / p - 1) := Int.mul_le_mul_of_nonneg_right h2 h
    omega
theorem small_none {p need t : Int} (h1 : 1 ≤ p) (hn : 0 ≤ need) (h : smallV p need t = none) : Sup.leastI p p t < need := by
  unfold smallV at h
  by_cases h0 : need = 0
  · rw [if_pos h0] at h; cases h
  · rw [if_neg h0] at h
    by_cases hq : t / p - 1 < 1
    · exact Sup.least_few p t need h1 (by omega) hq
    · rw [if_neg hq] at h
      by_cases hf : p < Sup.upI need (t / p - 1)
      · have := Sup.up_lt p need (t / p - 1) (by omega) (by omega) hf
        rw [Int.mul_comm] at this
        unfold Sup.leastI
        omega
      · rw [if_neg hf] at h; cases h
theorem small_some {p need t b : Int} (h1 : 1 ≤ p) (hn : 0 ≤ need) (h : smallV p need t = some b) : 1 ≤ b ∧ b ≤ p ∧ need ≤ Sup.leastI b p t ∧ (b = 1 ∨ Sup.leastI (b - 1) p t < need) := by
  unfold smallV at h
  by_cases h0 : need = 0
  · rw [if_pos h0] at h
    injection h with h
    subst h
    refine ⟨by omega, h1, ?_, .inl rfl⟩
    unfold Sup.leastI
    omega
  · rw [if_neg h0] at h
    by_cases hq : t / p - 1 < 1
    · rw [if_pos hq] at h; cases h
    · rw [if_neg hq] at h
      by_cases hf : p < Sup.upI need (t / p - 1)
      · rw [if_pos hf] at h; cases h
      · rw [if_neg hf] at h
        injection h with h
        have hge := Sup.up_ge need (t / p - 1) (by omega) (by omega)
        have hpos := Sup.up_pos need (t / p - 1) (by omega) (by omega)
        rw [Int.mul_comm] at hge
        rw [h] at hge hpos hf
        refine ⟨hpos, by omega, by unfold Sup.leastI; omega, ?_⟩
        by_cases hb1 : b = 1
        · exact .inl hb1
        · right
          have := Sup.up_lt (b - 1) need (t / p - 1) (by omega) (by omega) (by omega)
          rw [Int.mul_comm] at this
          unfold Sup.leastI
          omega
theorem small_any (p need t : Int) (w : World) (h1 : 1 ≤ p) (h2 : p ≤ 1048576) (hn : 0 ≤ need) (hn' : need ≤ 9223372036854775807) (h3 : 0 ≤ t) (h4 : t ≤ 1048576) :
    Calls Try.prog 33 #[.int .i64 p, .int .i64 need, .int .i64 t] w fun e w' => e = .returned (.tuple #[.int .i64 ((smallV p need t).getD 0), .bool (smallV p need t).isSome]) ∧ w = w' := by
  unfold smallV
  by_cases h0 : need = 0
  · subst h0
    exact Sup.small_zero p t w h1 h2 (Sup.strB_t ⟨h3, h4⟩)
  · rw [if_neg h0]
    by_cases hq : t / p - 1 < 1
    · rw [if_pos hq]
      exact Sup.small_few p need t w h1 h2 (by omega) h3 h4 hq
    · rw [if_neg hq]
      have hs := Sup.small_at p need t (Sup.upI need (t / p - 1)) w h1 h2 (by omega) h3 h4 (by omega) (fun w => Sup.byUp_any need _ w (by omega) (by omega) (by omega))
      by_cases hf : p < Sup.upI need (t / p - 1)
      · rw [if_pos hf] at hs ⊢
        exact hs
      · rw [if_neg hf] at hs ⊢
        exact hs

def budTo (f : Int → Option Int) (xs : List Int) : Nat → Option Int
  | 0 => some 1
  | k + 1 => match budTo f xs k, f (xs.getD k 0) with
    | some m, some b => some (max m b)
    | _, _ => none
theorem bud_stays {f : Int → Option Int} {xs : List Int} {k : Nat} (h : budTo f xs k = none) : ∀ {m : Nat}, k ≤ m → budTo f xs m = none
  | 0, hm => by rw [show k = 0 by omega] at h; exact h
  | m + 1, hm => by
    by_cases he : k = m + 1
    · rw [← he]; exact h
    · rw [budTo, bud_stays h (show k ≤ m by omega)]
def Bud (need : Int → Int) (p : Int) (xs : List Int) (k : Nat) (o : Option Int) : Prop := match o with
  | none => ∃ x ∈ xs, Sup.leastI p p x < need x
  | some m => 1 ≤ m ∧ m ≤ p ∧ (∀ i (hi : i < xs.length), i < k → need xs[i] ≤ Sup.leastI m p xs[i]) ∧ (m = 1 ∨ ∃ x ∈ xs, Sup.leastI (m - 1) p x < need x)
theorem bud_law {need : Int → Int} {p : Int} (h1 : 1 ≤ p) {xs : List Int} (hn : ∀ x ∈ xs, 0 ≤ need x) : ∀ k, k ≤ xs.length → Bud need p xs k (budTo (fun x => smallV p (need x) x) xs k)
  | 0, _ => ⟨by omega, h1, fun i _ hi => absurd hi (by omega), .inl rfl⟩
  | k + 1, hk => by
    have ih := bud_law h1 hn k (by omega)
    have hx : xs.getD k 0 = xs[k] := by rw [List.getD_eq_getElem?_getD, List.getElem?_eq_getElem (by omega)]; rfl
    rw [budTo, hx]
    have hnk := hn _ (List.getElem_mem (show k < xs.length by omega))
    cases hb : budTo (fun x => smallV p (need x) x) xs k with
    | none => rw [hb] at ih; exact ih
    | some m =>
      rw [hb] at ih
      obtain ⟨i1, i2, i3, i4⟩ := ih
      cases hs : smallV p (need xs[k]) xs[k] with
      | none => exact ⟨_, List.getElem_mem _, small_none h1 hnk hs⟩
      | some b =>
        obtain ⟨s1, s2, s3, s4⟩ := small_some h1 hnk hs
        refine ⟨by omega, by omega, fun i hi hik => ?_, ?_⟩
        · by_cases he : i = k
          · subst he
            exact Int.le_trans s3 (least_bud s1 (by omega))
          · exact Int.le_trans (i3 i hi (by omega)) (least_bud i1 (by omega))
        · rcases Int.lt_or_le m b with h | h
          · rw [show max m b = b by omega]
            rcases s4 with s4 | s4
            · exact .inl s4
            · exact .inr ⟨_, List.getElem_mem _, s4⟩
          · rw [show max m b = m by omega]
            exact i4
def budT (o : Option Int) : Value := match o with
  | none => .tuple #[.int .i64 0, .int .i64 24]
  | some m => .tuple #[.int .i64 m, .int .i64 0]

section
variable (A : Option Addr) (l : List Tk) (c : Nat) (S : Option Addr) (s : List Int) (d : Nat)
set_option maxHeartbeats 1000000 in
theorem fBudget_no (p n : Int) (w : World) (hs : Sl eT 3 w A l) (hm : l.length ≤ 9223372036854775807) (hz : Sl eI 1 w S s) (hmz : s.length ≤ 9223372036854775807) (h : (rightF l s 1 p && strT n) = false) :
    Calls Try.prog 22 #[.slice A l.length c, .slice S s.length d, .int .i64 p, .int .i64 n] w fun e w' => e = .returned (.tuple #[.int .i64 0, .int .i64 1]) ∧ Below w.heap.size w w' := by
  have HR := Lib.hid (fRight_any A l c S s d 1 p w hs hm hz hmz)
  have HS := Lib.hid (fun W => fStretch_any n W)
  generalize rightF l s 1 p = r at *
  generalize strT n = q at *
  cases r
  · go_enter Try.func22, Try.ntmps22
    go_wp2_with (first | (go_at_call 12; (with_reducible refine HR.out.mono ?_); rintro e w2 ⟨rfl, hB⟩) | (go_at_call 24; (with_reducible refine (HS.out _).mono ?_); rintro e w2 ⟨rfl, rfl⟩))
    go_ret2
    exact ⟨rfl, hB⟩
  · simp at h
    subst h
    go_enter Try.func22, Try.ntmps22
    go_wp2_with (first | (go_at_call 12; (with_reducible refine HR.out.mono ?_); rintro e w2 ⟨rfl, hB⟩) | (go_at_call 24; (with_reducible refine (HS.out _).mono ?_); rintro e w2 ⟨rfl, rfl⟩))
    go_ret2
    exact ⟨rfl, hB⟩

set_option maxRecDepth 100000 in
set_option maxHeartbeats 4000000 in
theorem fBudget_yes (p : Int) (u : Nat) (w : World) (hs : Sl eT 3 w A l) (hm : l.length ≤ 9223372036854775807) (hz : Sl eI 1 w S s) (hmz : s.length ≤ 9223372036854775807) (h : RightF l s 1 p) (hu : u ≤ 1048576) :
    Calls Try.prog 22 #[.slice A l.length c, .slice S s.length d, .int .i64 p, .int .i64 u] w fun e w' => e = .returned (budT (budTo (fun x => smallV p (needV l s x) x) (ptsTo l (u + 1)) (ptsTo l (u + 1)).length)) ∧ Below w.heap.size w w' := by
  have HR := Lib.hid (fRight_any A l c S s d 1 p w hs hm hz hmz)
  rw [rightF_mk h] at HR
  have hst : strT (u : Int) = true := decide_eq_true ⟨by omega, by omega⟩
  have HS := Lib.hid (fun W => fStretch_any (u : Int) W)
  rw [hst] at HS
  have HP := Lib.hid (fun W hW => tPoints_yes A l c u W hW hm h.all hu)
  have H := Lib.hid h
  have hp := h.res
  clear h hst
  have HX := Lib.hid (pts_in (allT_mem H.out.all) hu)
  have hpl := pts_len l (u + 1)
  generalize ptsTo l (u + 1) = xs at *
  have HLAW := Lib.hid (bud_law (need := needV l s) (p := p) (by omega) (xs := xs) (fun x hx => (needV_bd H.out.all H.out.sec H.out.len (n := x) (by have := HX.out x hx; omega) (HX.out x hx).2).1))
  obtain ⟨f, hf⟩ : ∃ f, f = (fun x => smallV p (needV l s x) x) := ⟨_, rfl⟩
  rw [← hf] at HLAW
  rw [← hf]
  have HFF := Lib.hid hf
  clear hf
  go_enter Try.func22, Try.ntmps22
  go_wp2_with (first | (go_at_call 12; (with_reducible refine HR.out.mono ?_); rintro e w2 ⟨rfl, hB⟩) | (go_at_call 24; (with_reducible refine (HS.out _).mono ?_); rintro e w2 ⟨rfl, rfl⟩))
  have hs1 := hs.keep hB
  have hz1 := hz.keep hB
  refine (HP.out _ hs1).mono ?_
  rintro e w3 ⟨O, od, rfl, own, hb⟩
  replace hs1 := hs1.keep hb; replace hz1 := hz1.keep hb; replace hB := bstep hB (Nat.le_refl _) hb; clear hb
  have hsp := own.sl eI_ok
  clear own
  go_wp2_with fail
  go_loopw [10, 30] (fun v i wr => ∃ (k : Nat) (m : Int), k ≤ xs.length ∧ i = .int .i64 k ∧ v = .int .i64 m ∧ 1 ≤ m ∧ m ≤ 1048576 ∧ Hid (budTo f xs k = some m) ∧ Below w3.heap.size w3 wr) (fun _ i _ => xs.length - (intOf i).toNat)
  case atStart => exact ⟨0, 1, Nat.zero_le _, rfl, rfl, by omega, by omega, rfl, Below.refl _ _⟩
  case round =>
    obtain ⟨k, m, hk, rfl, rfl, hm1, hm2, HM, hb⟩ := hrel
    by_cases hlt : k < xs.length
    · obtain ⟨b1, o1, rfl, e0⟩ := (hsp.keep hb).int_at hlt
      have k0 : (0 : Int) ≤ (k : Int) := by omega
      have k1 : (k : Int) < (xs.length : Int) := by omega
      have hx := HX.out _ (List.getElem_mem hlt)
      have hsw := hs1.keep hb
      have hzw := hz1.keep hb
      have hnb := needV_bd H.out.all H.out.sec H.out.len (n := xs[k]) (by omega) hx.2
      have HN := Lib.hid (fNeed_yes A l c S s d xs[k] wr hsw hzw H.out.all H.out.len H.out.sec (by omega) hx.2)
      have HL := Lib.hid (fun W => small_any p (needV l s xs[k]) xs[k] W (by omega) (by omega) hnb.1 (by omega) (by omega) hx.2)
      have HG : Hid (xs.getD k 0 = xs[k]) := by unfold Hid; rw [List.getD_eq_getElem?_getD, List.getElem?_eq_getElem hlt]; rfl
      have HS1 : Hid (smallV p (needV l s xs[k]) xs[k] = none → budTo f xs xs.length = none) := fun hn => by
        refine bud_stays (k := k + 1) ?_ (by omega)
        rw [budTo, HM.out, HG.out, HFF.out]
        simp only [hn]
      have HS2 : Hid (∀ b, smallV p (needV l s xs[k]) xs[k] = some b → budTo f xs (k + 1) = some (max m b) ∧ 1 ≤ b ∧ b ≤ p) := fun b hn => by
        have h5 := small_some (by omega) hnb.1 hn
        refine ⟨?_, h5.1, h5.2.1⟩
        rw [budTo, HM.out, HG.out, HFF.out]
        simp only [hn]
      generalize smallV p (needV l s xs[k]) xs[k] = o at *
      generalize needV l s xs[k] = D at *
      generalize xs[k] = x at *
      clear HM
      cases o with
      | none =>
        have hnone := HS1.out rfl
        simp only [Option.getD_none, Option.isSome_none] at HL
        clear HS1 HS2
        go_wp2_with (first | (go_at_call 26; (with_reducible refine HN.out.mono ?_); rintro e w4 ⟨rfl, hb4⟩; replace hb := bstep hb (Nat.le_refl _) hb4; clear hb4) | (go_at_call 33; (with_reducible refine (HL.out _).mono ?_); rintro e w4 ⟨rfl, rfl⟩))
        go_ret2
        refine ⟨?_, bstep hB (Nat.le_refl _) hb⟩
        rw [hnone]
        rfl
      | some b =>
        obtain ⟨h6, h7, h8⟩ := HS2.out b rfl
        have HB6 := Lib.hid h6
        simp only [Option.getD_some, Option.isSome_some] at HL
        clear HS1 HS2 h6
        by_cases hmb : m < b
        · have hmx : max m b = b := by omega
          rw [hmx] at HB6
          clear hmx
          go_wp2_with (first | (go_at_call 26; (with_reducible refine HN.out.mono ?_); rintro e w4 ⟨rfl, hb4⟩; replace hb := bstep hb (Nat.le_refl _) hb4; clear hb4) | (go_at_call 33; (with_reducible refine (HL.out _).mono ?_); rintro e w4 ⟨rfl, rfl⟩))
          go_roundw
          case rel => exact ⟨k + 1, b, by omega, by go_num, rfl, by omega, by omega, HB6.out, hb⟩
          case measure => simp [intOf]; omega
        · have hmx : max m b = m := by omega
          rw [hmx] at HB6
          clear hmx
          go_wp2_with (first | (go_at_call 26; (with_reducible refine HN.out.mono ?_); rintro e w4 ⟨rfl, hb4⟩; replace hb := bstep hb (Nat.le_refl _) hb4; clear hb4) | (go_at_call 33; (with_reducible refine (HL.out _).mono ?_); rintro e w4 ⟨rfl, rfl⟩))
          go_roundw
          case rel => exact ⟨k + 1, m, by omega, by go_num, rfl, by omega, by omega, HB6.out, hb⟩
          case measure => simp [intOf]; omega
    · obtain rfl : k = xs.length := by omega
      go_wp2_with fail
      go_ret2
      refine ⟨?_, bstep hB (Nat.le_refl _) hb⟩
      rw [HM.out]
      rfl

/-! the statement's question -/
set_option maxHeartbeats 1000000 in
theorem keeps_yes (b p : Int) (u : Nat) (w : World) (hs : Sl eT 3 w A l) (hz : Sl eI 1 w S s) (h : RightF l s b p) (hu : u ≤ 1048576) :
    Calls Try.prog 23 #[.slice A l.length c, .slice S s.length d, .int .i64 b, .int .i64 p, .int .i64 u] w fun e w' => e = .returned (.bool (firstV l s b p u).isNone) ∧ Below w.heap.size w w' := by
  have HG := Lib.hid (rFirst_yes A l c S s d b p u w hs hz h hu)
  have HX := Lib.hid (fun x hx => first_in (allT_mem h.all) (s := s) (b := b) (p := p) (u := u) hu (x := x) hx)
  generalize firstV l s b p u = o at *
  cases o with
  | none =>
    simp only [Option.getD_none] at HG
    go_enter Try.func23, Try.ntmps23
    go_wp2_with (go_at_call 14; (with_reducible refine HG.out.mono ?_); rintro e w2 ⟨rfl, hB⟩)
    go_ret
    exact ⟨rfl, hB⟩
  | some x =>
    have hx := HX.out x rfl
    clear HX
    simp only [Option.getD_some] at HG
    have hx0 : ¬ x < 0 := by omega
    have hx2 : decide (x < 0) = false := decide_eq_false hx0
    go_enter Try.func23, Try.ntmps23
    go_wp2_with (go_at_call 14; (with_reducible refine HG.out.mono ?_); rintro e w2 ⟨rfl, hB⟩)
    go_ret
    exact ⟨ret_bool (by first | (simp; done) | (simp; omega)), hB⟩
end
theorem keeps_t {l : List Tk} {s : List Int} {b p : Int} {u : Nat} (h : ∀ i (hi : i < (ptsTo l (u + 1)).length), needV l s (ptsTo l (u + 1))[i] ≤ Sup.leastI b p (ptsTo l (u + 1))[i]) : (firstV l s b p u).isNone = true := by
  unfold firstV
  rw [find_none_at (fun i hi => decide_eq_false (by have := h i hi; omega))]
  rfl
theorem keeps_f {l : List Tk} {s : List Int} {b p : Int} {u : Nat} (h : ∃ x ∈ ptsTo l (u + 1), Sup.leastI b p x < needV l s x) : (firstV l s b p u).isNone = false := by
  unfold firstV
  cases hf : (ptsTo l (u + 1)).find? (overP l s b p) with
  | some x => rfl
  | none =>
    obtain ⟨x, hx, hlt⟩ := h
    rw [List.find?_eq_none] at hf
    exact absurd (decide_eq_true hlt) (hf x hx)

set_option maxRecDepth 100000 in
set_option maxHeartbeats 4000000 in
theorem budgets_any (A : Option Addr) (l : List Tk) (c : Nat) (S : Option Addr) (s : List Int) (d : Nat) (p n : Int) (w : World) (hs : Sl eT 3 w A l) (hm : l.length ≤ 9223372036854775807) (hz : Sl eI 1 w S s) (hmz : s.length ≤ 9223372036854775807) (_hp : -9223372036854775808 ≤ p) :
    Calls Try.prog 6 #[.slice A l.length c, .slice S s.length d, .int .i64 p, .int .i64 n] w fun e w' => e = .returned (.bool true) ∧ Below w.heap.size w w' := by
  have hB := Below.refl w.heap.size w
  have hs1 := hs
  have hz1 := hz
  have HF := Lib.hid (fun W => few_any A l.length c S s.length d n W)
  cases hf : fewB l.length s.length n
  · rw [hf] at HF
    go_enter Try.func6, Try.ntmps6
    go_wp2_with (first | (go_at_call 7; (with_reducible refine (HF.out _).mono ?_); rintro e w5 ⟨rfl, rfl⟩) | (go_at_call 8; (with_reducible refine (awake_any _).mono ?_); rintro e w5 ⟨rfl, hb⟩; replace hs1 := hs1.keep hb; replace hz1 := hz1.keep hb; replace hB := bstep hB (Nat.le_refl _) hb; clear hb))
    go_ret
    exact ⟨rfl, hB⟩
  · rw [hf] at HF
    have HQ := Lib.hid (fun W hW hW2 => rRight_any A l c S s d 1 p W hW hm hW2 hmz)
    cases hr : rightF l s 1 p
    · rw [hr] at HQ
      have HI := Lib.hid (fun W hW hW2 => fBudget_no A l c S s d p n W hW hm hW2 hmz (by rw [hr]; rfl))
      go_enter Try.func6, Try.ntmps6
      go_wp2_with (first | (go_at_call 7; (with_reducible refine (HF.out _).mono ?_); rintro e w5 ⟨rfl, rfl⟩) | (go_at_call 8; (with_reducible refine (awake_any _).mono ?_); rintro e w5 ⟨rfl, hb⟩; replace hs1 := hs1.keep hb; replace hz1 := hz1.keep hb; replace hB := bstep hB (Nat.le_refl _) hb; clear hb) | (go_at_call 22; (with_reducible refine (HI.out _ hs1 hz1).mono ?_); rintro e w5 ⟨rfl, hb⟩; replace hs1 := hs1.keep hb; replace hz1 := hz1.keep hb; replace hB := bstep hB (Nat.le_refl _) hb; clear hb) | (go_at_call 11; (with_reducible refine (HQ.out _ hs1 hz1).mono ?_); rintro e w5 ⟨rfl, hb⟩; replace hs1 := hs1.keep hb; replace hz1 := hz1.keep hb; replace hB := bstep hB (Nat.le_refl _) hb; clear hb))
      go_ret
      exact ⟨rfl, hB⟩
    · rw [hr] at HQ
      have H := rightF_t hr
      by_cases h0 : n < 0
      · have hst : strT n = false := decide_eq_false (by omega)
        have HI := Lib.hid (fun W hW hW2 => fBudget_no A l c S s d p n W hW hm hW2 hmz (by rw [hst, Bool.and_false]))
        go_enter Try.func6, Try.ntmps6
        go_wp2_with (first | (go_at_call 7; (with_reducible refine (HF.out _).mono ?_); rintro e w5 ⟨rfl, rfl⟩) | (go_at_call 8; (with_reducible refine (awake_any _).mono ?_); rintro e w5 ⟨rfl, hb⟩; replace hs1 := hs1.keep hb; replace hz1 := hz1.keep hb; replace hB := bstep hB (Nat.le_refl _) hb; clear hb) | (go_at_call 22; (with_reducible refine (HI.out _ hs1 hz1).mono ?_); rintro e w5 ⟨rfl, hb⟩; replace hs1 := hs1.keep hb; replace hz1 := hz1.keep hb; replace hB := bstep hB (Nat.le_refl _) hb; clear hb) | (go_at_call 11; (with_reducible refine (HQ.out _ hs1 hz1).mono ?_); rintro e w5 ⟨rfl, hb⟩; replace hs1 := hs1.keep hb; replace hz1 := hz1.keep hb; replace hB := bstep hB (Nat.le_refl _) hb; clear hb))
        go_ret
        exact ⟨rfl, hB⟩
      · by_cases h1 : 1048576 < n
        · have hst : strT n = false := decide_eq_false (by omega)
          have HI := Lib.hid (fun W hW hW2 => fBudget_no A l c S s d p n W hW hm hW2 hmz (by rw [hst, Bool.and_false]))
          go_enter Try.func6, Try.ntmps6
          go_wp2_with (first | (go_at_call 7; (with_reducible refine (HF.out _).mono ?_); rintro e w5 ⟨rfl, rfl⟩) | (go_at_call 8; (with_reducible refine (awake_any _).mono ?_); rintro e w5 ⟨rfl, hb⟩; replace hs1 := hs1.keep hb; replace hz1 := hz1.keep hb; replace hB := bstep hB (Nat.le_refl _) hb; clear hb) | (go_at_call 22; (with_reducible refine (HI.out _ hs1 hz1).mono ?_); rintro e w5 ⟨rfl, hb⟩; replace hs1 := hs1.keep hb; replace hz1 := hz1.keep hb; replace hB := bstep hB (Nat.le_refl _) hb; clear hb) | (go_at_call 11; (with_reducible refine (HQ.out _ hs1 hz1).mono ?_); rintro e w5 ⟨rfl, hb⟩; replace hs1 := hs1.keep hb; replace hz1 := hz1.keep hb; replace hB := bstep hB (Nat.le_refl _) hb; clear hb))
          go_ret
          exact ⟨rfl, hB⟩
        · obtain ⟨u, rfl⟩ := Int.eq_ofNat_of_zero_le (show 0 ≤ n by omega)
          have hu : u ≤ 1048576 := by omega
          have hu0 : (0 : Int) ≤ (u : Int) := by omega
          have hu1 : (u : Int) ≤ 1048576 := by omega
          have HI := Lib.hid (fun W hW hW2 => fBudget_yes A l c S s d p u W hW hm hW2 hmz H hu)
          have hpp := H.res
          have HX := pts_in (allT_mem H.all) (u := u) hu
          have hlaw := bud_law (need := needV l s) (p := p) (by omega) (xs := ptsTo l (u + 1)) (fun x hx => (needV_bd H.all H.sec H.len (n := x) (by have := HX x hx; omega) (HX x hx).2).1) (ptsTo l (u + 1)).length (Nat.le_refl _)
          have HKP := Lib.hid (fun W hW hW2 => keeps_yes A l c S s d p p u W hW hW2 ⟨H.all, H.len, by omega, H.sec⟩ hu)
          generalize budTo (fun x => smallV p (needV l s x) x) (ptsTo l (u + 1)) (ptsTo l (u + 1)).length = o at *
          clear h0 h1
          cases o with
          | none =>
            have hk := keeps_f (b := p) hlaw
            rw [hk] at HKP
            simp only [budT] at HI
            clear hlaw hk HX H hr
            go_enter Try.func6, Try.ntmps6
            go_wp2_with (first | (go_at_call 7; (with_reducible refine (HF.out _).mono ?_); rintro e w5 ⟨rfl, rfl⟩) | (go_at_call 8; (with_reducible refine (awake_any _).mono ?_); rintro e w5 ⟨rfl, hb⟩; replace hs1 := hs1.keep hb; replace hz1 := hz1.keep hb; replace hB := bstep hB (Nat.le_refl _) hb; clear hb) | (go_at_call 22; (with_reducible refine (HI.out _ hs1 hz1).mono ?_); rintro e w5 ⟨rfl, hb⟩; replace hs1 := hs1.keep hb; replace hz1 := hz1.keep hb; replace hB := bstep hB (Nat.le_refl _) hb; clear hb) | (go_at_call 11; (with_reducible refine (HQ.out _ hs1 hz1).mono ?_); rintro e w5 ⟨rfl, hb⟩; replace hs1 := hs1.keep hb; replace hz1 := hz1.keep hb; replace hB := bstep hB (Nat.le_refl _) hb; clear hb) | (go_at_call 23; (with_reducible refine (HKP.out _ hs1 hz1).mono ?_); rintro e w5 ⟨rfl, hb⟩; replace hs1 := hs1.keep hb; replace hz1 := hz1.keep hb; replace hB := bstep hB (Nat.le_refl _) hb; clear hb))
            go_ret
            exact ⟨rfl, hB⟩
          | some m =>
            obtain ⟨m1, m2, m3, m4⟩ := hlaw
            have hk1 := keeps_t (b := m) (fun i hi => m3 i hi hi)
            have hk2 := keeps_t (b := p) (p := p) (fun i hi => Int.le_trans (m3 i hi hi) (least_bud m1 m2))
            rw [hk2] at HKP
            have HKM := Lib.hid (fun W hW hW2 => keeps_yes A l c S s d m p u W hW hW2 ⟨H.all, H.len, by omega, H.sec⟩ hu)
            rw [hk1] at HKM
            simp only [budT] at HI
            by_cases hone : m = 1
            · subst hone
              clear m3 m4 hk1 hk2 HX H hr
              go_enter Try.func6, Try.ntmps6
              go_wp2_with (first | (go_at_call 7; (with_reducible refine (HF.out _).mono ?_); rintro e w5 ⟨rfl, rfl⟩) | (go_at_call 8; (with_reducible refine (awake_any _).mono ?_); rintro e w5 ⟨rfl, hb⟩; replace hs1 := hs1.keep hb; replace hz1 := hz1.keep hb; replace hB := bstep hB (Nat.le_refl _) hb; clear hb) | (go_at_call 22; (with_reducible refine (HI.out _ hs1 hz1).mono ?_); rintro e w5 ⟨rfl, hb⟩; replace hs1 := hs1.keep hb; replace hz1 := hz1.keep hb; replace hB := bstep hB (Nat.le_refl _) hb; clear hb) | (go_at_call 11; (with_reducible refine (HQ.out _ hs1 hz1).mono ?_); rintro e w5 ⟨rfl, hb⟩; replace hs1 := hs1.keep hb; replace hz1 := hz1.keep hb; replace hB := bstep hB (Nat.le_refl _) hb; clear hb) | (go_at_call 23; (first | (with_reducible refine (HKM.out _ hs1 hz1).mono ?_) | (with_reducible refine (HKP.out _ hs1 hz1).mono ?_)); rintro e w5 ⟨rfl, hb⟩; replace hs1 := hs1.keep hb; replace hz1 := hz1.keep hb; replace hB := bstep hB (Nat.le_refl _) hb; clear hb))
              go_ret
              exact ⟨rfl, hB⟩
            · have hk3 := keeps_f (b := m - 1) (p := p) (m4.resolve_left hone)
              have HKL := Lib.hid (fun W hW hW2 => keeps_yes A l c S s d (m - 1) p u W hW hW2 ⟨H.all, H.len, by omega, H.sec⟩ hu)
              rw [hk3] at HKL
              have hone2 : (m == 1) = false := by simp; omega
              clear m3 m4 hk1 hk2 hk3 HX H hr
              go_enter Try.func6, Try.ntmps6
              go_wp2_with (first | (go_at_call 7; (with_reducible refine (HF.out _).mono ?_); rintro e w5 ⟨rfl, rfl⟩) | (go_at_call 8; (with_reducible refine (awake_any _).mono ?_); rintro e w5 ⟨rfl, hb⟩; replace hs1 := hs1.keep hb; replace hz1 := hz1.keep hb; replace hB := bstep hB (Nat.le_refl _) hb; clear hb) | (go_at_call 22; (with_reducible refine (HI.out _ hs1 hz1).mono ?_); rintro e w5 ⟨rfl, hb⟩; replace hs1 := hs1.keep hb; replace hz1 := hz1.keep hb; replace hB := bstep hB (Nat.le_refl _) hb; clear hb) | (go_at_call 11; (with_reducible refine (HQ.out _ hs1 hz1).mono ?_); rintro e w5 ⟨rfl, hb⟩; replace hs1 := hs1.keep hb; replace hz1 := hz1.keep hb; replace hB := bstep hB (Nat.le_refl _) hb; clear hb) | (go_at_call 23; (first | (with_reducible refine (HKM.out _ hs1 hz1).mono ?_) | (with_reducible refine (HKP.out _ hs1 hz1).mono ?_) | (with_reducible refine (HKL.out _ hs1 hz1).mono ?_)); rintro e w5 ⟨rfl, hb⟩; replace hs1 := hs1.keep hb; replace hz1 := hz1.keep hb; replace hB := bstep hB (Nat.le_refl _) hb; clear hb))
              go_ret
              exact ⟨rfl, hB⟩
end Go.Proofs.Ytojccjdldmjfgaa
