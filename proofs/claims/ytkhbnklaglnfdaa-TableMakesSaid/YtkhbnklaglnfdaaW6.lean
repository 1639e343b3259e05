/- Walks: the program's word on which tables keep all deadlines. -/
import Derived.Test.YtkhbnklaglnfdaaW5
namespace Go.Proofs.Ytkhbnklaglnfdaa
open Go.RowKit

def StrS (S : List Int) (i : Int) (D : Nat) (C : Int) : Prop := (∀ j, j < S.length → tAt S j = i → j < D) ∧ cR S i 0 S.length = C
noncomputable def strSB (S : List Int) (i : Int) (D : Nat) (C : Int) : Bool := @decide (StrS S i D C) (Classical.propDecidable _)
theorem strSB_t {S : List Int} {i : Int} {D : Nat} {C : Int} (h : StrS S i D C) : strSB S i D C = true := @decide_eq_true _ (Classical.propDecidable _) h
theorem strSB_f {S : List Int} {i : Int} {D : Nat} {C : Int} (h : ¬ StrS S i D C) : strSB S i D C = false := @decide_eq_false _ (Classical.propDecidable _) h
theorem tAt_sub {T : List Int} {x p j : Nat} (hj : j < p) : tAt ((T.drop x).take p) j = tAt T (x + j) := by
  unfold tAt
  rw [List.getD_eq_getElem?_getD, List.getD_eq_getElem?_getD, List.getElem?_take, if_pos hj, List.getElem?_drop]
theorem cR_sub {T : List Int} {x p : Nat} {i : Int} : ∀ n, n ≤ p → cR ((T.drop x).take p) i 0 n = cR T i x n
  | 0, _ => rfl
  | n + 1, h => by rw [cR, cR, cR_sub n (by omega), Nat.zero_add, tAt_sub (by omega)]
theorem str_sub {T : List Int} {q p D : Nat} {i C : Int} (h : q * p + p ≤ T.length) : StrS ((T.drop (q * p)).take p) i D C ↔ StrOk T i p D C q := by
  have hl : ((T.drop (q * p)).take p).length = p := by simp; omega
  unfold StrS StrOk
  rw [hl, cR_sub p (Nat.le_refl _)]
  constructor
  · rintro ⟨h1, h2⟩
    exact ⟨fun j hj hx => h1 j hj (by rw [tAt_sub hj]; exact hx), h2⟩
  · rintro ⟨h1, h2⟩
    exact ⟨fun j hj hx => h1 j hj (by rw [tAt_sub hj] at hx; exact hx), h2⟩

set_option maxRecDepth 100000 in
set_option maxHeartbeats 4000000 in
theorem tkeeps1_any (i : Nat) (C : Int) (P D : Nat) (A : Option Addr) (S : List Int) (c : Nat) (w : World) (hs : Sl eI 1 w A S) (hm : S.length ≤ 9223372036854775807) :
    Calls Try.prog 19 #[.int .i64 i, .agg #[.int .i64 C, .int .i64 P, .int .i64 D], .slice A S.length c] w fun e w' => e = .returned (.bool (strSB S i D C)) ∧ Below w.heap.size w w' := by
  have HF : Hid (¬ StrS S i D C → strSB S i D C = false) := fun h => strSB_f h
  have HT : Hid (StrS S i D C → strSB S i D C = true) := fun h => strSB_t h
  generalize strSB S i D C = K at *
  have hB := below1 w (Obj.cells #[.int .i64 C, .int .i64 P, .int .i64 D] 29)
  have bk := Blk.new w 29 #[.int .i64 C, .int .i64 P, .int .i64 D]
  have z0 := bk.cell 0 (.int .i64 C) rfl
  have z2 := bk.cell 2 (.int .i64 D) rfl
  have hs1 := hs.keep hB
  clear bk
  go_enter Try.func19, Try.ntmps19
  go_wp2_with fail
  go_loop [7, 8, 9, 12] (fun vh _ _ vk => ∃ (k n : Nat), k ≤ S.length ∧ vk = .int .i64 k ∧ vh = .int .i64 n ∧ n ≤ k ∧ Hid ((n : Int) = cR S i 0 k) ∧ Hid (∀ j, j < k → tAt S j = i → j < D)) (fun _ _ _ vk => S.length - (intOf vk).toNat)
  case atStart => exact ⟨0, 0, Nat.zero_le _, rfl, rfl, Nat.le_refl _, rfl, fun j hj => absurd hj (by omega)⟩
  case round =>
    obtain ⟨k, n, hk, rfl, rfl, hn, HN, HJ⟩ := hrel
    by_cases hlt : k < S.length
    · obtain ⟨b, off, rfl, c0⟩ := hs1.int_at hlt
      rw [← tAt_eq] at c0
      have k0 : (0 : Int) ≤ (k : Int) := by omega
      have k1 : (k : Int) < (S.length : Int) := by omega
      have HC : Hid (cR S i 0 (k + 1) = (n : Int) + (if tAt S k = (i : Int) then 1 else 0)) := by
        show _ = _
        rw [cR, ← HN.out, Nat.zero_add]
      have HB : Hid (tAt S k = (i : Int) → D ≤ k → K = false) := fun h1 h2 => HF.out (fun h => by have := h.1 k hlt h1; omega)
      have HJ2 : Hid ((tAt S k = (i : Int) → k < D) → ∀ j, j < k + 1 → tAt S j = i → j < D) := fun h1 j hj hx => by
        by_cases he : j = k
        · subst he; exact h1 hx
        · exact HJ.out j (by omega) hx
      clear HN HJ
      generalize tAt S k = x at *
      by_cases hx : x = (i : Int)
      · have hx' : (x != (i : Int)) = false := by simp [hx]
        by_cases hD : D ≤ k
        · have hD' : (D : Int) ≤ (k : Int) := by omega
          have HK := Lib.hid (HB.out hx hD)
          clear hx HB HC HJ2
          go_wp2_with fail
          go_ret
          exact ⟨ret_bool HK.out.symm, hB⟩
        · have hD' : (k : Int) < (D : Int) := by omega
          have HC2 : Hid (((n + 1 : Nat) : Int) = cR S i 0 (k + 1)) := by have := HC.out; rw [if_pos hx] at this; exact this.symm
          have HJ3 := Lib.hid (HJ2.out (fun _ => by omega))
          clear hx HB HC HJ2
          go_wp2_with fail
          go_round
          case rel => exact ⟨k + 1, n + 1, by omega, by go_num, by go_num, by omega, HC2.out, HJ3.out⟩
          case measure => simp [intOf]; omega
      · have hx' : (x != (i : Int)) = true := by simp [hx]
        have HC2 : Hid ((n : Int) = cR S i 0 (k + 1)) := by have := HC.out; rw [if_neg hx, Int.add_zero] at this; exact this.symm
        have HJ3 := Lib.hid (HJ2.out (fun h => absurd h hx))
        clear HB HC HJ2
        go_wp2_with fail
        go_round
        case rel => exact ⟨k + 1, n, by omega, by go_num, rfl, by omega, HC2.out, HJ3.out⟩
        case measure => simp [intOf]; omega
    · obtain rfl : k = S.length := by omega
      have HR : Hid (((n : Int) == C) = K) := by
        show _ = _
        by_cases hc : (n : Int) = C
        · rw [HT.out ⟨fun j hj hx => HJ.out j hj hx, by rw [← HN.out]; exact hc⟩]
          exact beq_iff_eq.2 hc
        · rw [HF.out (fun h => hc (by rw [HN.out]; exact h.2))]
          exact beq_eq_false_iff_ne.2 hc
      clear HF HT HN HJ
      go_wp2_with fail
      go_ret
      exact ⟨ret_bool HR.out, hB⟩

theorem strSB_get {S : List Int} {i : Int} {D : Nat} {C : Int} (h : strSB S i D C = true) : StrS S i D C := @of_decide_eq_true _ (Classical.propDecidable _) h
theorem row_in {n p q : Nat} (hp : 1 ≤ p) (hm : n % p = 0) (h : q * p < n) : q < n / p := by
  have e := Nat.div_add_mod n p
  rw [hm, Nat.add_zero, Nat.mul_comm] at e
  rcases Nat.lt_or_ge q (n / p) with h1 | h1
  · exact h1
  · have := Nat.mul_le_mul_right p h1
    omega
theorem row_end {n p q q' : Nat} (hp : 1 ≤ p) (h : n = q * p) (h' : q' < n / p) : q' < q := by
  rw [h, Nat.mul_div_cancel _ hp] at h'
  exact h'
theorem keeps_cut {T : List Int} {i : Nat} {C : Int} {p D x d b off : Nat} (w : World) (h : x + p ≤ T.length) (hs : Sl eI 1 w (some ⟨b, off, none⟩) T) (hp : 1 ≤ p := by omega) (hm : T.length ≤ 9223372036854775807 := by omega) :
    Calls Try.prog 19 #[.int .i64 i, .agg #[.int .i64 C, .int .i64 p, .int .i64 D], .slice (some ⟨b, off + x, none⟩) p d] w fun e w' => e = .returned (.bool (strSB ((T.drop x).take p) i D C)) ∧ Below w.heap.size w w' := by
  have h1 := (hs.drop (k := x) (by omega)).take p
  rw [Nat.mul_one] at h1
  have hl : ((T.drop x).take p).length = p := by simp; omega
  have h2 := tkeeps1_any i C p D _ _ d w h1 (by omega)
  rw [hl] at h2
  exact h2
theorem row_step {T : List Int} {i : Int} {p D q : Nat} {C : Int} (h : ∀ q', q' < q → StrOk T i p D C q') (hq : StrOk T i p D C q) : ∀ q', q' < q + 1 → StrOk T i p D C q' := fun q' h' => by
  by_cases he : q' = q
  · subst he; exact hq
  · exact h q' (by omega)
theorem fit_step {n p q : Nat} (hp : 1 ≤ p) (hm : n % p = 0) (h : q * p < n) : q * p + p ≤ n := by
  have e := Nat.div_add_mod n p
  rw [hm, Nat.add_zero, Nat.mul_comm] at e
  have : q < n / p := by
    rcases Nat.lt_or_ge q (n / p) with h1 | h1
    · exact h1
    · have := Nat.mul_le_mul_right p h1
      omega
  have := Nat.mul_le_mul_right p (show q + 1 ≤ n / p from this)
  rw [Nat.add_mul] at this
  omega
set_option maxRecDepth 100000 in
set_option maxHeartbeats 8000000 in
theorem tKeeps_any (A : Option Addr) (l : List Tk) (c : Nat) (B : Option Addr) (T : List Int) (d : Nat) (w : World) (hs : Sl eT 3 w A l) (hm : l.length ≤ 9223372036854775807) (hz : Sl eI 1 w B T) (hmz : T.length ≤ 9223372036854775807) (hcap : T.length ≤ d) :
    Calls Try.prog 10 #[.slice A l.length c, .slice B T.length d] w fun e w' => e = .returned (.bool (allT l && keepsB l T)) ∧ Below w.heap.size w w' := by
  have HA := Lib.hid (tAll_any A l c w hs hm)
  cases hall : allT l
  · rw [hall] at HA
    go_enter Try.func10, Try.ntmps10
    go_wp2_with (go_at_call 18; (with_reducible refine HA.out.mono ?_); rintro e w2 ⟨rfl, hB⟩)
    go_ret
    exact ⟨rfl, hB⟩
  rw [hall] at HA
  rw [Bool.true_and]
  have hs8 := allT_len hall
  have H := Lib.hid hall
  clear hall
  have HKF : Hid (¬ KeepsP l T → keepsB l T = false) := fun h => keepsB_f h
  have HKT : Hid (KeepsP l T → keepsB l T = true) := fun h => keepsB_t h
  generalize keepsB l T = K at *
  by_cases h1 : T.length < 1
  · have hk := Lib.hid (HKF.out (fun h => by have := h.1; omega))
    have h1' : (T.length : Int) < 1 := by omega
    go_enter Try.func10, Try.ntmps10
    go_wp2_with (go_at_call 18; (with_reducible refine HA.out.mono ?_); rintro e w2 ⟨rfl, hB⟩)
    go_ret
    exact ⟨ret_bool hk.out.symm, hB⟩
  by_cases h2 : 4096 < T.length
  · have hk := Lib.hid (HKF.out (fun h => by have := h.2.1; omega))
    have h1' : (1 : Int) ≤ (T.length : Int) := by omega
    have h2' : (4096 : Int) < (T.length : Int) := by omega
    go_enter Try.func10, Try.ntmps10
    go_wp2_with (go_at_call 18; (with_reducible refine HA.out.mono ?_); rintro e w2 ⟨rfl, hB⟩)
    go_ret
    exact ⟨ret_bool hk.out.symm, hB⟩
  have h1' : (1 : Int) ≤ (T.length : Int) := by omega
  have h2' : (T.length : Int) ≤ 4096 := by omega
  have hT1 : 1 ≤ T.length := by omega
  have hT2 : T.length ≤ 4096 := by omega
  clear h1 h2
  go_enter Try.func10, Try.ntmps10
  go_wp2_with (go_at_call 18; (with_reducible refine HA.out.mono ?_); rintro e w2 ⟨rfl, hB⟩)
  clear HA
  go_loopw [27] (fun i wo => ∃ k : Nat, k ≤ l.length ∧ i = .int .i64 k ∧ Hid (∀ j (h : j < l.length), j < k → T.length % l[j].period.toNat = 0) ∧ Below w.heap.size w wo) (fun i _ => l.length - (intOf i).toNat)
  case atStart => exact ⟨0, Nat.zero_le _, rfl, fun n h hk => absurd hk (by omega), hB⟩
  case round =>
    clear hB
    obtain ⟨k, hk, rfl, HD, hB⟩ := hrel
    by_cases hlt : k < l.length
    · obtain ⟨b, off, rfl, c0, c1, c2⟩ := (hs.keep hB).tk_at hlt
      have hr := allT_at H.out hlt
      have k0 : (0 : Int) ≤ (k : Int) := by omega
      have k1 : (k : Int) < (l.length : Int) := by omega
      have HN : Hid (¬ T.length % l[k].period.toNat = 0 → K = false) := fun hno => HKF.out (fun h => hno (h.2.2.2 k hlt).1)
      have HY : Hid (T.length % l[k].period.toNat = 0 → ∀ j (h : j < l.length), j < k + 1 → T.length % l[j].period.toNat = 0) := fun hyes j hj hjk => by
        by_cases he : j = k
        · subst he; exact hyes
        · exact HD.out j hj (by omega)
      clear HD
      generalize l[k] = t at *
      obtain ⟨C, P, D⟩ := t
      simp only at hr c0 c1 c2 HN HY
      obtain ⟨p, rfl⟩ := Int.eq_ofNat_of_zero_le (show 0 ≤ P by omega)
      rw [Int.toNat_natCast] at HN HY
      have hpn : ¬ (p : Int) = 0 := by omega
      have e1 : (T.length : Int) % (p : Int) = ((T.length % p : Nat) : Int) := by rw [Int.natCast_emod]
      have hpl := Nat.mod_lt T.length (show 1 ≤ p by omega)
      have hb6 := below1 wr (Obj.cells #[.int .i64 C, .int .i64 (p : Int), .int .i64 D] 29)
      have z1 := (Blk.new wr 29 #[.int .i64 C, .int .i64 (p : Int), .int .i64 D]).cell 1 (.int .i64 (p : Int)) rfl
      generalize T.length % p = q at *
      by_cases hq : q = 0
      · have HG := Lib.hid (HY.out hq)
        subst hq
        clear HN HY
        go_wp2_with fail
        go_roundw
        case rel => exact ⟨k + 1, by omega, by go_num, HG.out, bstep hB (Nat.le_refl _) hb6⟩
        case measure => simp [intOf]; omega
      · have HF := Lib.hid (HN.out hq)
        have hq' : ((q : Int) != 0) = true := by simp [hq]
        clear HN HY
        go_wp2_with fail
        go_ret
        exact ⟨ret_bool HF.out.symm, bstep hB (Nat.le_refl _) hb6⟩
    · obtain rfl : k = l.length := by omega
      have HD2 : Hid (∀ j (h : j < l.length), T.length % l[j].period.toNat = 0) := fun j h => HD.out j h h
      clear HD
      have hz1 := hz.keep hB
      go_wp2_with fail
      go_loop [8, 40] (fun _ i => ∃ k : Nat, k ≤ T.length ∧ i = .int .i64 k ∧ Hid (∀ n (h : n < T.length), n < k → T[n] < l.length)) (fun _ i => T.length - (intOf i).toNat)
      case atStart => exact ⟨0, Nat.zero_le _, rfl, fun n h hk => absurd hk (by omega)⟩
      case round =>
        obtain ⟨k, hk, rfl, HW⟩ := hrel
        by_cases hlt : k < T.length
        · obtain ⟨b, off, rfl, c0⟩ := hz1.int_at hlt
          have k0 : (0 : Int) ≤ (k : Int) := by omega
          have k1 : (k : Int) < (T.length : Int) := by omega
          by_cases hx : T[k] < l.length
          · have HK2 : Hid (∀ n (h : n < T.length), n < k + 1 → T[n] < l.length) := fun n hn hnk => by
              by_cases he : n = k
              · subst he; exact hx
              · exact HW.out n hn (by omega)
            clear HW
            generalize T[k] = x at *
            go_wp2_with fail
            go_round
            case rel => exact ⟨k + 1, by omega, by go_num, HK2.out⟩
            case measure => simp [intOf]; omega
          · have hkf := Lib.hid (HKF.out (fun h => hx (h.2.2.1 k hlt)))
            have hx' : (l.length : Int) ≤ T[k] := by omega
            generalize T[k] = x at *
            go_wp2_with fail
            go_ret
            exact ⟨ret_bool hkf.out.symm, hB⟩
        · obtain rfl : k = T.length := by omega
          clear hz1
          go_wp2_with fail
          go_loopw [51] (fun vi wo => ∃ k : Nat, k ≤ l.length ∧ vi = .int .i64 k ∧ Hid (∀ i (h : i < l.length), i < k → RowOk T i l[i].period.toNat l[i].dead.toNat l[i].cost) ∧ Below w.heap.size w wo) (fun vi _ => l.length - (intOf vi).toNat)
          case atStart => exact ⟨0, Nat.zero_le _, rfl, fun n h hk => absurd hk (by omega), hB⟩
          case round =>
            clear hB
            obtain ⟨k, hk, rfl, HR, hB⟩ := hrel
            by_cases hlt : k < l.length
            · obtain ⟨b, off, rfl, c0, c1, c2⟩ := (hs.keep hB).tk_at hlt
              have hr := allT_at H.out hlt
              have k0 : (0 : Int) ≤ (k : Int) := by omega
              have k1 : (k : Int) < (l.length : Int) := by omega
              have HN : Hid (¬ RowOk T k l[k].period.toNat l[k].dead.toNat l[k].cost → K = false) := fun hno => HKF.out (fun h => hno (h.2.2.2 k hlt))
              have HY : Hid (RowOk T k l[k].period.toNat l[k].dead.toNat l[k].cost → ∀ i (h : i < l.length), i < k + 1 → RowOk T i l[i].period.toNat l[i].dead.toNat l[i].cost) := fun hyes i hi hik => by
                by_cases he : i = k
                · subst he; exact hyes
                · exact HR.out i hi (by omega)
              have HM := Lib.hid (HD2.out k hlt)
              clear HR
              generalize l[k] = t at *
              obtain ⟨C, P, D⟩ := t
              simp only at hr c0 c1 c2 HN HY HM
              obtain ⟨p, rfl⟩ := Int.eq_ofNat_of_zero_le (show 0 ≤ P by omega)
              obtain ⟨D, rfl⟩ := Int.eq_ofNat_of_zero_le (show 0 ≤ D by omega)
              rw [Int.toNat_natCast] at HM
              rw [Int.toNat_natCast, Int.toNat_natCast] at HN HY
              have hp1 : 1 ≤ p := by omega
              have hb6 := below1 wr (Obj.cells #[.int .i64 C, .int .i64 (p : Int), .int .i64 (D : Int)] 29)
              have bk := Blk.new wr 29 #[.int .i64 C, .int .i64 (p : Int), .int .i64 (D : Int)]
              have z0 := bk.cell 0 (.int .i64 C) rfl
              have z1 := bk.cell 1 (.int .i64 (p : Int)) rfl
              have z2 := bk.cell 2 (.int .i64 (D : Int)) rfl
              replace hB := bstep hB (Nat.le_refl _) hb6
              have hz1 := hz.keep hB
              clear bk hb6
              go_wp2_with fail
              generalize hwx : wr.alloc (Obj.cells #[.int .i64 C, .int .i64 (p : Int), .int .i64 (D : Int)] 29) = wx at *
              go_loopw [11] (fun v wo => ∃ (q x : Nat), x ≤ T.length ∧ v = .int .i64 x ∧ Hid (x = q * p) ∧ Hid (∀ q', q' < q → StrOk T k p D C q') ∧ Below wx.heap.size wx wo) (fun v _ => T.length - (intOf v).toNat)
              case atStart => exact ⟨0, 0, Nat.zero_le _, rfl, by rw [Hid, Nat.zero_mul], fun q' h => absurd h (by omega), Below.refl _ _⟩
              case round =>
                obtain ⟨q, x, hx, rfl, HX, HQ, hb⟩ := hrel
                replace z0 := kcell hb z0
                replace z1 := kcell hb z1
                replace z2 := kcell hb z2
                by_cases hxl : x < T.length
                · have hfit : x + p ≤ T.length := by have := fit_step hp1 HM.out (q := q) (by rw [← HX.out]; exact hxl); rw [← HX.out] at this; exact this
                  obtain ⟨E, hE⟩ : ∃ E : Nat, E = x + p := ⟨_, rfl⟩
                  have x0 : (0 : Int) ≤ (x : Int) := by omega
                  have x1 : (x : Int) < (T.length : Int) := by omega
                  have x2 : (x : Int) + (p : Int) = (E : Int) := by omega
                  have x3 : (E : Int) ≤ (d : Int) := by omega
                  have x4 : (x : Int) ≤ (E : Int) := by omega
                  have x5 : E ≤ 4096 := by omega
                  obtain ⟨bz, oz, rfl, _⟩ := hz1.int_at hxl
                  have HS := Lib.hid (fun W (hW : Below wr.heap.size wr W) => keeps_cut (i := k) (C := C) (p := p) (D := D) (x := x) (d := d - x) W hfit (hz1.keep (bstep hb (Nat.le_refl _) hW)))
                  have hEx : E - x = p := by omega
                  have hEx2 : ((E : Int) - (x : Int)).toNat = p := by omega
                  have hdx : x < d := by omega
                  have hET : E ≤ T.length := by omega
                  have hEp : x < E := by omega
                  have HEE := Lib.hid hE
                  clear hE
                  have HST : Hid (StrS ((T.drop x).take p) k D C ↔ StrOk T k p D C q) := by
                    have := str_sub (T := T) (q := q) (p := p) (D := D) (i := (k : Int)) (C := C) (by rw [← HX.out]; exact hfit)
                    rw [← HX.out] at this
                    exact this
                  go_wp2_with fail
                  cases hv : strSB ((T.drop x).take p) k D C
                  · rw [hv] at HS
                    have HF := Lib.hid (HN.out (fun h => by
                      have h2 := HST.out.2 (h.2 q (row_in hp1 HM.out (by rw [← HX.out]; exact hxl)))
                      rw [strSB_t h2] at hv
                      cases hv))
                    (have aft_z0 := Aft.cell z0; have aft_z1 := Aft.cell z1; have aft_z2 := Aft.cell z2; refine wp_region_aft (by kernel_rfl) (by kernel_rfl) ?_; (repeat (go_big_quiet_step ((go_at_call 19; go_loud (exact aft_call (HS.out _ (Aft.ok _))))))); refine wpQuiet_nil ?_; clear aft_z0 aft_z1 aft_z2; intro w7 hw2_; have hb7 := Aft.below hw2_; clear hw2_)
                    go_wp2_with fail
                    go_ret
                    exact ⟨ret_bool HF.out.symm, bstep (bstep hB (Nat.le_refl _) hb) (Nat.le_refl _) hb7⟩
                  · rw [hv] at HS
                    have HQ2 := Lib.hid (row_step HQ.out (HST.out.1 (strSB_get hv)))
                    have HX2 : Hid (E = (q + 1) * p) := by
                      show _ = _
                      rw [Nat.add_mul, Nat.one_mul, ← HX.out]
                      exact HEE.out
                    (have aft_z0 := Aft.cell z0; have aft_z1 := Aft.cell z1; have aft_z2 := Aft.cell z2; refine wp_region_aft (by kernel_rfl) (by kernel_rfl) ?_; (repeat (go_big_quiet_step ((go_at_call 19; go_loud (exact aft_call (HS.out _ (Aft.ok _))))))); refine wpQuiet_nil ?_; clear aft_z0 aft_z1 aft_z2; intro w7 hw2_; have hb7 := Aft.below hw2_; clear hw2_)
                    replace z1 := kcell hb7 z1
                    go_wp2_with fail
                    go_roundw
                    case rel => exact ⟨q + 1, E, by omega, rfl, HX2.out, HQ2.out, bstep hb (Nat.le_refl _) hb7⟩
                    case measure => simp [intOf]; omega
                · obtain rfl : x = T.length := by omega
                  have HG := Lib.hid (HY.out ⟨HM.out, fun q' h => HQ.out q' (row_end hp1 HX.out h)⟩)
                  go_wp2_with fail
                  go_roundw
                  case rel => exact ⟨k + 1, by omega, by go_num, HG.out, bstep hB (Nat.le_refl _) hb⟩
                  case measure => simp [intOf]; omega
            · obtain rfl : k = l.length := by omega
              have HF := Lib.hid (HKT.out ⟨hT1, hT2, fun n h => HW.out n h h, fun i h => HR.out i h h⟩)
              clear HKF HKT
              go_wp2_with fail
              go_ret
              exact ⟨ret_bool HF.out.symm, hB⟩
end Go.Proofs.Ytkhbnklaglnfdaa
