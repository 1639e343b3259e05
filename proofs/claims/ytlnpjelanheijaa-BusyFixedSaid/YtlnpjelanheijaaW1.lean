/- Walks: how long a set keeps a processor busy, its bad stretches, and how soon a job is done, by the program. -/
import Derived.Test.YtlnpjelanheijaaTW4
import Derived.Test.YtlnpjelanheijaaTW3
import Derived.Test.YtlnpjelanheijaaM1
import Derived.Test.YtlnpjelanheijaaBlk
namespace Go.Proofs.Ytlnpjelanheijaa
open Go.RowKit

set_option maxRecDepth 100000 in
set_option maxHeartbeats 4000000 in
theorem settle_yes (A : Option Addr) (l : List Tk) (c : Nat) (cost most : Int) (w : World) (hs : Sl eT 3 w A l) (h : allT l = true) (hc0 : 0 ≤ cost) (hc1 : cost ≤ 1048576) (h1 : most ≤ 1048576) (h1' : -9223372036854775808 ≤ most) :
    Calls Try.prog 21 #[.slice A l.length c, .int .i64 cost, .int .i64 most] w fun e w' => e = .returned (.tuple #[.int .i64 (fixV cost l most : Nat), .bool (decide (0 < fixV cost l most))]) ∧ Below w.heap.size w w' := by
  have hs8 := allT_len h
  have H := Lib.hid h
  clear h
  go_enter Try.func21, Try.ntmps21
  go_wp2
  go_loopw [8] (fun v wr => ∃ n : Nat, 1 ≤ n ∧ n ≤ 17592187092993 ∧ v = .int .i64 n ∧ Hid (∀ m : Nat, m < n → fixP cost l m = false) ∧ Below w.heap.size w wr) (fun v _ => most.toNat + 1 - (intOf v).toNat)
  case atStart => exact ⟨1, by omega, by omega, rfl, fun m hm => by obtain rfl : m = 0 := by omega
                                                                    rfl, Below.refl _ _⟩
  case round =>
    obtain ⟨n, hn1, hn2, rfl, HM, hB⟩ := hrel
    by_cases hle : (n : Int) ≤ most
    · have hrq := reqL_all H.out (n := (n : Int)) (by omega) (by omega)
      have HR := Lib.hid (tRequest_yes A l c n wr (hs.keep hB) (by omega) H.out (by omega) (by omega))
      have HJ := Lib.hid (fun hne k hk => fix_jump (cost := cost) (allT_mem H.out) (n := n) (k := k) HM.out hne hk)
      have HH := Lib.hid (fun he => fixV_hit (cost := cost) (l := l) (most := most) hle hn1 he HM.out)
      clear HM
      generalize reqL l (n : Int) = q at *
      cases he : (cost + q == (n : Int))
      · have hne : Hid (¬ cost + q = n) := by simpa [Hid] using he
        go_wp2_with (go_at_call 27; (with_reducible refine HR.out.mono ?_); rintro e w2 ⟨rfl, hb⟩; replace hB := bstep hB (Nat.le_refl _) hb; clear hb)
        obtain ⟨k, hk⟩ : ∃ k : Nat, (k : Int) = if (n : Int) + 1 < cost + q then cost + q else (n : Int) + 1 := ⟨(if (n : Int) + 1 < cost + q then cost + q else (n : Int) + 1).toNat, by split <;> omega⟩
        have hkb : n < k ∧ k ≤ 17592187092993 ∧ (k : Int) = max ((n : Int) + 1) (cost + q) := by split at hk <;> omega
        go_roundw
        case rel => exact ⟨k, by omega, by omega, by rw [hk], HJ.out hne.out k hkb.2.2, hB⟩
        case measure => rw [← hk]; simp [intOf]; omega
      · have he' : Hid (cost + q = n) := by simpa [Hid] using he
        go_wp2_with (go_at_call 27; (with_reducible refine HR.out.mono ?_); rintro e w2 ⟨rfl, hb⟩; replace hB := bstep hB (Nat.le_refl _) hb; clear hb)
        go_ret2
        have hfv := HH.out he'.out
        exact ⟨by rw [hfv, decide_eq_true (show 0 < n by omega)]; rfl, hB⟩
    · go_wp2
      go_ret2
      have hfv : fixV cost l most = 0 := fixV_none (fun m hm => HM.out m (by omega))
      exact ⟨by rw [hfv]; rfl, hB⟩

theorem okN_f {l : List Tk} {n : Int} (h : ¬ (0 ≤ n ∧ n ≤ 1048576)) : okN l n = false := by unfold okN; rw [decide_eq_false h, Bool.and_false]
theorem okN_a {l : List Tk} {n : Int} (h : allT l = false) : okN l n = false := by unfold okN; rw [h]; rfl
theorem okN_t {l : List Tk} {n : Int} (h : allT l = true) (h0 : 0 ≤ n) (h1 : n ≤ 1048576) : okN l n = true := by unfold okN; rw [h, decide_eq_true ⟨h0, h1⟩]; rfl
theorem okN_get {l : List Tk} {n : Int} (h : okN l n = true) : allT l = true ∧ 0 ≤ n ∧ n ≤ 1048576 := by
  unfold okN at h
  rw [Bool.and_eq_true] at h
  exact ⟨h.1, of_decide_eq_true h.2⟩
/-- a number, and whether it is one -/
def numV (n : Nat) : Value := .tuple #[.int .i64 n, .bool (decide (0 < n))]

set_option maxHeartbeats 1000000 in
theorem length_any (A : Option Addr) (l : List Tk) (c : Nat) (n : Int) (w : World) (hs : Sl eT 3 w A l) (hm : l.length ≤ 9223372036854775807) (h0 : -9223372036854775808 ≤ n) :
    Calls Try.prog 9 #[.slice A l.length c, .int .i64 n] w fun e w' => e = .returned (numV (lenV l n)) ∧ Below w.heap.size w w' := by
  have HA := Lib.hid (tAll_any A l c w hs hm)
  by_cases hl : l.length = 0
  · have hv : lenV l n = 0 := by
      obtain rfl := List.eq_nil_of_length_eq_zero hl
      unfold lenV
      split
      · exact fix_nil n
      · rfl
    rw [hv]
    go_enter Try.func9, Try.ntmps9
    go_wp2
    go_ret2
    exact ⟨rfl, Below.refl _ _⟩
  · have hl2 : ((l.length : Int) == 0) = false := by simp; exact fun e => hl (by rw [e]; rfl)
    cases ha : allT l
    · have hv : lenV l n = 0 := by unfold lenV; rw [okN_a ha]; rfl
      rw [hv]
      rw [ha] at HA
      go_enter Try.func9, Try.ntmps9
      go_wp2_with (go_at_call 20; (with_reducible refine HA.out.mono ?_); rintro e w2 ⟨rfl, hB⟩)
      go_ret2
      exact ⟨rfl, hB⟩
    · rw [ha] at HA
      by_cases h1 : n < 1
      · have hv : lenV l n = 0 := by
          unfold lenV
          split
          · exact fix_none0 0 l h1
          · rfl
        rw [hv]
        go_enter Try.func9, Try.ntmps9
        go_wp2_with (go_at_call 20; (with_reducible refine HA.out.mono ?_); rintro e w2 ⟨rfl, hB⟩)
        go_ret2
        exact ⟨rfl, hB⟩
      · by_cases h2 : 1048576 < n
        · have hv : lenV l n = 0 := by unfold lenV; rw [okN_f (by omega)]; rfl
          rw [hv]
          go_enter Try.func9, Try.ntmps9
          go_wp2_with (go_at_call 20; (with_reducible refine HA.out.mono ?_); rintro e w2 ⟨rfl, hB⟩)
          go_ret2
          exact ⟨rfl, hB⟩
        · have hv : lenV l n = fixV 0 l n := by unfold lenV; rw [okN_t ha (by omega) (by omega)]; rfl
          rw [hv]
          have HS := Lib.hid (fun W (hW : Sl eT 3 W A l) => settle_yes A l c 0 n W hW ha (by omega) (by omega) (by omega) h0)
          have HK := Lib.hid (fun W (hb : Below w.heap.size w W) => hs.keep hb)
          generalize fixV 0 l n = q at *
          go_enter Try.func9, Try.ntmps9
          go_wp2_with (first | (go_at_call 20; (with_reducible refine HA.out.mono ?_); rintro e w2 ⟨rfl, hB⟩) | (go_at_call 21; (with_reducible refine (HS.out _ (HK.out _ hB)).mono ?_); rintro e w3 ⟨rfl, hb⟩))
          go_ret2
          exact ⟨rfl, bstep hB (Nat.le_refl _) hb⟩

set_option maxHeartbeats 2000000 in
theorem response_any (A : Option Addr) (l : List Tk) (c : Nat) (t : Tk) (n : Int) (w : World) (hs : Sl eT 3 w A l) (hm : l.length ≤ 9223372036854775807) (h0 : -9223372036854775808 ≤ n) :
    Calls Try.prog 11 #[.slice A l.length c, .agg #[.int .i64 t.cost, .int .i64 t.period, .int .i64 t.dead], .int .i64 n] w fun e w' => e = .returned (numV (respV l t n)) ∧ Below w.heap.size w w' := by
  have hB := below1 w (Obj.cells #[.int .i64 t.cost, .int .i64 t.period, .int .i64 t.dead] 24)
  have bk := Blk.new w 24 #[.int .i64 t.cost, .int .i64 t.period, .int .i64 t.dead]
  have HA := Lib.hid (tAll_any A l c _ (hs.keep hB) hm)
  have HR := Lib.hid (fun W => tRight_any t W)
  have c0 := bk.cell 0 (.int .i64 t.cost) rfl
  have c1 := bk.cell 1 (.int .i64 t.period) rfl
  have c2 := bk.cell 2 (.int .i64 t.dead) rfl
  cases ha : allT l
  · have hv : respV l t n = 0 := by unfold respV; rw [okN_a ha]; rfl
    rw [hv]
    rw [ha] at HA
    go_enter Try.func11, Try.ntmps11
    go_wp2_with (go_at_call 20; (with_reducible refine HA.out.mono ?_); rintro e w2 ⟨rfl, hb⟩; replace hB := bstep hB (Nat.le_refl _) hb; clear hb)
    go_ret2
    exact ⟨rfl, hB⟩
  · rw [ha] at HA
    cases hr : rightT t
    · have hv : respV l t n = 0 := by unfold respV; rw [hr, Bool.and_false]; rfl
      rw [hv]
      rw [hr] at HR
      go_enter Try.func11, Try.ntmps11
      go_wp2_with (first | (go_at_call 20; (with_reducible refine HA.out.mono ?_); rintro e w2 ⟨rfl, hb⟩; replace hB := bstep hB (Nat.le_refl _) hb; replace c0 := kcell hb c0; replace c1 := kcell hb c1; replace c2 := kcell hb c2; clear hb) | (go_at_call 24; (with_reducible refine (HR.out _).mono ?_); rintro e w3 ⟨rfl, hb⟩; replace hB := bstep hB (Nat.le_refl _) hb; clear hb))
      go_ret2
      exact ⟨rfl, hB⟩
    · rw [hr] at HR
      by_cases h1 : n < 1
      · have hv : respV l t n = 0 := by
          unfold respV
          split
          · exact fix_none0 _ l h1
          · rfl
        rw [hv]
        go_enter Try.func11, Try.ntmps11
        go_wp2_with (first | (go_at_call 20; (with_reducible refine HA.out.mono ?_); rintro e w2 ⟨rfl, hb⟩; replace hB := bstep hB (Nat.le_refl _) hb; replace c0 := kcell hb c0; replace c1 := kcell hb c1; replace c2 := kcell hb c2; clear hb) | (go_at_call 24; (with_reducible refine (HR.out _).mono ?_); rintro e w3 ⟨rfl, hb⟩; replace hB := bstep hB (Nat.le_refl _) hb; clear hb))
        go_ret2
        exact ⟨rfl, hB⟩
      · by_cases h2 : 1048576 < n
        · have hv : respV l t n = 0 := by unfold respV; rw [okN_f (by omega)]; rfl
          rw [hv]
          go_enter Try.func11, Try.ntmps11
          go_wp2_with (first | (go_at_call 20; (with_reducible refine HA.out.mono ?_); rintro e w2 ⟨rfl, hb⟩; replace hB := bstep hB (Nat.le_refl _) hb; replace c0 := kcell hb c0; replace c1 := kcell hb c1; replace c2 := kcell hb c2; clear hb) | (go_at_call 24; (with_reducible refine (HR.out _).mono ?_); rintro e w3 ⟨rfl, hb⟩; replace hB := bstep hB (Nat.le_refl _) hb; clear hb))
          go_ret2
          exact ⟨rfl, hB⟩
        · have hv : respV l t n = fixV t.cost l n := by unfold respV; rw [okN_t ha (by omega) (by omega), hr]; rfl
          rw [hv]
          have hr1 := rightT_t hr
          have HS := Lib.hid (fun W (hW : Sl eT 3 W A l) => settle_yes A l c t.cost n W hW ha (by omega) (by omega) (by omega) h0)
          have HK := Lib.hid (fun W (hb : Below w.heap.size w W) => hs.keep hb)
          generalize fixV t.cost l n = q at *
          go_enter Try.func11, Try.ntmps11
          go_wp2_with (first | (go_at_call 20; (with_reducible refine HA.out.mono ?_); rintro e w2 ⟨rfl, hb⟩; replace hB := bstep hB (Nat.le_refl _) hb; replace c0 := kcell hb c0; replace c1 := kcell hb c1; replace c2 := kcell hb c2; clear hb) | (go_at_call 24; (with_reducible refine (HR.out _).mono ?_); rintro e w3 ⟨rfl, hb⟩; replace hB := bstep hB (Nat.le_refl _) hb; replace c0 := kcell hb c0; clear hb) | (go_at_call 21; (with_reducible refine (HS.out _ (HK.out _ hB)).mono ?_); rintro e w4 ⟨rfl, hb⟩))
          go_ret2
          exact ⟨rfl, bstep hB (Nat.le_refl _) hb⟩

theorem find_some_at {p : Int → Bool} {xs : List Int} {k : Nat} (hk : k < xs.length) (h : p xs[k] = true) (hm : ∀ i (hi : i < xs.length), i < k → p xs[i] = false) : xs.find? p = some xs[k] := by
  rw [List.find?_eq_some_iff_getElem]
  refine ⟨h, k, hk, rfl, fun j hj => ?_⟩
  rw [hm j (by omega) hj]; rfl
theorem find_none_at {p : Int → Bool} {xs : List Int} (hm : ∀ i (hi : i < xs.length), p xs[i] = false) : xs.find? p = none := by
  rw [List.find?_eq_none]
  intro x hx
  obtain ⟨i, hi, rfl⟩ := List.mem_iff_getElem.1 hx
  rw [hm i hi]; simp

set_option maxRecDepth 100000 in
set_option maxHeartbeats 4000000 in
theorem bad_any (A : Option Addr) (l : List Tk) (c : Nat) (n : Int) (w : World) (hs : Sl eT 3 w A l) (hm : l.length ≤ 9223372036854775807) :
    Calls Try.prog 10 #[.slice A l.length c, .int .i64 n] w fun e w' => e = .returned (numV (badV l n)) ∧ Below w.heap.size w w' := by
  have HP := Lib.hid (tPoints_any A l c n w hs hm)
  cases hok : okN l n
  · have hv : badV l n = 0 := by unfold badV; rw [hok]; rfl
    have hp : ptsV l n = [] := by
      unfold ptsV
      have : (allT l && strT n) = okN l n := rfl
      rw [this, hok]; rfl
    rw [hv]
    rw [hp] at HP
    go_enter Try.func10, Try.ntmps10
    go_wp2_with fail
    refine HP.out.mono ?_
    rintro e w2 ⟨O, d, rfl, own, hB⟩
    go_wp2_with fail
    refine wp_loop_rounds 1 ?_
    rw [rounds_succ]
    go_wp2
    go_ret2
    exact ⟨rfl, hB⟩
  · obtain ⟨ha, h0, h1⟩ := okN_get hok
    obtain ⟨u, rfl⟩ := Int.eq_ofNat_of_zero_le h0
    have hr := allT_mem ha
    have hp : ptsV l u = ptsTo l (u + 1) := by
      unfold ptsV
      have : (allT l && strT (u : Int)) = okN l u := rfl
      rw [this, hok]; rfl
    have HV := Lib.hid (bad_ref hr hok)
    have HE : Hid (∀ x ∈ ptsTo l (u + 1), 1 ≤ x ∧ x ≤ 1048576) := fun x hx => by
      have h2 := pts_mem.1 hx
      obtain ⟨t, ht, hp⟩ := isPt_t h2.2.2
      have h3 := rightT_t (hr t ht)
      have h4 := of_decide_eq_true hp
      omega
    rw [hp] at HP
    have HA := Lib.hid ha
    have hpl := pts_len l (u + 1)
    generalize ptsTo l (u + 1) = xs at *
    clear hok ha hr hp
    go_enter Try.func10, Try.ntmps10
    go_wp2_with fail
    refine HP.out.mono ?_
    rintro e w2 ⟨O, d, rfl, own, hB⟩
    have hsp := own.sl eI_ok
    clear own
    go_wp2_with fail
    go_loopw [12] (fun i wr => ∃ k : Nat, k ≤ xs.length ∧ i = .int .i64 k ∧ Hid (∀ i (hi : i < xs.length), i < k → badP l xs[i] = false) ∧ Below w2.heap.size w2 wr) (fun i _ => xs.length - (intOf i).toNat)
    case atStart => exact ⟨0, Nat.zero_le _, rfl, fun i _ hi => absurd hi (by omega), Below.refl _ _⟩
    case round =>
      obtain ⟨k, hk, rfl, HM, hb⟩ := hrel
      by_cases hlt : k < xs.length
      · obtain ⟨b, off, rfl, c0⟩ := (hsp.keep hb).int_at hlt
        have k0 : (0 : Int) ≤ (k : Int) := by omega
        have k1 : (k : Int) < (xs.length : Int) := by omega
        have hx := HE.out _ (List.getElem_mem hlt)
        have HD := Lib.hid (tDemand_yes A l c xs[k] wr (hs.keep (bstep hB (Nat.le_refl _) hb)) hm HA.out (by omega) hx.2)
        have HF := Lib.hid (fun hp => find_some_at (p := badP l) hlt hp HM.out)
        have HM2 : Hid (badP l xs[k] = false → ∀ i (hi : i < xs.length), i < k + 1 → badP l xs[i] = false) := fun hp i hi hik => by
          by_cases he : i = k
          · subst he; exact hp
          · exact HM.out i hi (by omega)
        have HB : Hid (badP l xs[k] = decide (xs[k] < demL l xs[k])) := rfl
        clear HM
        generalize badP l xs[k] = q at *
        generalize demL l xs[k] = D at *
        generalize xs[k] = x at *
        by_cases hxd : x < D
        · have hq : q = true := by rw [HB.out]; exact decide_eq_true hxd
          go_wp2_with (go_at_call 23; (with_reducible refine HD.out.mono ?_); rintro e w4 ⟨rfl, hb4⟩; replace hb := bstep hb (Nat.le_refl _) hb4; clear hb4)
          go_ret2
          have hv := HV.out
          rw [HF.out hq] at hv
          have hx0 : 0 < x := by omega
          have hvn : badV l u = x.toNat := by simp at hv; omega
          refine ⟨?_, bstep hB (Nat.le_refl _) hb⟩
          rw [hvn]
          unfold numV
          rw [decide_eq_true (show 0 < x.toNat by omega), Int.toNat_of_nonneg (by omega)]
          rfl
        · have hq : q = false := by rw [HB.out]; exact decide_eq_false hxd
          go_wp2_with (go_at_call 23; (with_reducible refine HD.out.mono ?_); rintro e w4 ⟨rfl, hb4⟩; replace hb := bstep hb (Nat.le_refl _) hb4; clear hb4)
          go_roundw
          case rel => exact ⟨k + 1, by omega, by go_num, HM2.out hq, hb⟩
          case measure => simp [intOf]; omega
      · obtain rfl : k = xs.length := by omega
        go_wp2
        go_ret2
        have hv := HV.out
        rw [find_none_at (fun i hi => HM.out i hi hi)] at hv
        have hvn : badV l u = 0 := by simp at hv; omega
        exact ⟨by rw [hvn]; rfl, bstep hB (Nat.le_refl _) hb⟩

theorem quick_any (A : Option Addr) (l : List Tk) (c : Nat) (n : Int) (w : World) (hs : Sl eT 3 w A l) (hm : l.length ≤ 9223372036854775807) :
    Calls Try.prog 19 #[.slice A l.length c, .int .i64 n] w fun e w' => e = .returned (.bool (okN l n && decide (badV l n = 0))) ∧ Below w.heap.size w w' := by
  have HA := Lib.hid (tAll_any A l c w hs hm)
  cases ha : allT l
  · rw [okN_a ha]
    rw [ha] at HA
    go_enter Try.func19, Try.ntmps19
    go_wp2_with (go_at_call 20; (with_reducible refine HA.out.mono ?_); rintro e w2 ⟨rfl, hB⟩)
    go_ret
    exact ⟨rfl, hB⟩
  · rw [ha] at HA
    by_cases h1 : n < 0
    · rw [okN_f (by omega)]
      go_enter Try.func19, Try.ntmps19
      go_wp2_with (go_at_call 20; (with_reducible refine HA.out.mono ?_); rintro e w2 ⟨rfl, hB⟩)
      go_ret
      exact ⟨rfl, hB⟩
    · by_cases h2 : 1048576 < n
      · rw [okN_f (by omega)]
        go_enter Try.func19, Try.ntmps19
        go_wp2_with (go_at_call 20; (with_reducible refine HA.out.mono ?_); rintro e w2 ⟨rfl, hB⟩)
        go_ret
        exact ⟨rfl, hB⟩
      · rw [okN_t ha (by omega) (by omega), Bool.true_and]
        have HD := Lib.hid (fun W (hW : Sl eT 3 W A l) => bad_any A l c n W hW hm)
        unfold numV at HD
        have HK := Lib.hid (fun W (hb : Below w.heap.size w W) => hs.keep hb)
        generalize badV l n = q at *
        go_enter Try.func19, Try.ntmps19
        go_wp2_with (first | (go_at_call 20; (with_reducible refine HA.out.mono ?_); rintro e w2 ⟨rfl, hB⟩) | (go_at_call 10; (with_reducible refine (HD.out _ (HK.out _ hB)).mono ?_); rintro e w3 ⟨rfl, hb⟩))
        go_ret
        refine ⟨ret_bool ?_, bstep hB (Nat.le_refl _) hb⟩
        by_cases hq : q = 0 <;> simp [hq] <;> omega

set_option maxRecDepth 100000 in
set_option maxHeartbeats 4000000 in
theorem fixed_any (A : Option Addr) (l : List Tk) (c : Nat) (w : World) (hs : Sl eT 3 w A l) (hm : l.length ≤ 9223372036854775807) (hc : l.length ≤ c) :
    Calls Try.prog 18 #[.slice A l.length c] w fun e w' => e = .returned (.bool (fixedB l)) ∧ Below w.heap.size w w' := by
  have HA := Lib.hid (tAll_any A l c w hs hm)
  cases ha : allT l
  · have hv : fixedB l = false := by unfold fixedB; rw [ha]; rfl
    rw [hv]
    rw [ha] at HA
    go_enter Try.func18, Try.ntmps18
    go_wp2_with (go_at_call 20; (with_reducible refine HA.out.mono ?_); rintro e w2 ⟨rfl, hB⟩)
    go_ret
    exact ⟨rfl, hB⟩
  · rw [ha] at HA
    have H := Lib.hid ha
    have hs8 := allT_len ha
    clear ha
    go_enter Try.func18, Try.ntmps18
    go_wp2_with (go_at_call 20; (with_reducible refine HA.out.mono ?_); rintro e w2 ⟨rfl, hB⟩)
    go_loopw [12] (fun i wr => ∃ k : Nat, k ≤ l.length ∧ i = .int .i64 k ∧ Hid (∀ i (hi : i < l.length), i < k → 0 < fixV l[i].cost (l.take i) l[i].dead) ∧ Below w.heap.size w wr) (fun i _ => l.length - (intOf i).toNat)
    case atStart => exact ⟨0, Nat.zero_le _, rfl, fun i _ hi => absurd hi (by omega), hB⟩
    case round =>
      clear hB
      obtain ⟨k, hk, rfl, HM, hB⟩ := hrel
      by_cases hlt : k < l.length
      · obtain ⟨b, off, rfl, c0, c1, c2⟩ := (hs.keep hB).tk_at hlt
        have k0 : (0 : Int) ≤ (k : Int) := by omega
        have k1 : (k : Int) < (l.length : Int) := by omega
        have k2 : (k : Int) ≤ (c : Int) := by omega
        have hr := allT_at H.out hlt
        have hkl : (l.take k).length = k := by rw [List.length_take]; omega
        have hat : allT (l.take k) = true := all_yes (by omega) (fun i hi => by rw [List.getElem_take]; exact allT_mem H.out _ (List.getElem_mem _))
        have hrt := allT_mem H.out _ (List.getElem_mem hlt)
        have hv : respV (l.take k) l[k] l[k].dead = fixV l[k].cost (l.take k) l[k].dead := by unfold respV; rw [okN_t hat (by omega) (by omega), hrt]; rfl
        have HR : Hid (∀ W, Sl eT 3 W (some ⟨b, off, none⟩) (l.take k) → Calls Try.prog 11 #[.slice (some ⟨b, off, none⟩) k c, .agg #[.int .i64 l[k].cost, .int .i64 l[k].period, .int .i64 l[k].dead], .int .i64 l[k].dead] W fun e w' => e = .returned (.tuple #[.int .i64 (fixV l[k].cost (l.take k) l[k].dead : Nat), .bool (decide (0 < fixV l[k].cost (l.take k) l[k].dead))]) ∧ Below W.heap.size W w') := fun W hW => by
          have := response_any (some ⟨b, off, none⟩) (l.take k) c l[k] l[k].dead W hW (by omega) (by omega)
          rw [hv, hkl] at this
          exact this
        have HN := Lib.hid (fixed_no hlt)
        have HM2 : Hid (0 < fixV l[k].cost (l.take k) l[k].dead → ∀ i (hi : i < l.length), i < k + 1 → 0 < fixV l[i].cost (l.take i) l[i].dead) := fun hp i hi hik => by
          by_cases he : i = k
          · subst he; exact hp
          · exact HM.out i hi (by omega)
        clear HM hkl hat hrt hv
        have hst := (hs.keep hB).take k
        generalize fixV l[k].cost (l.take k) l[k].dead = q at *
        generalize l[k] = t at *
        go_wp2_with fail
        have bk := Blk.new wr 24 #[.int .i64 t.cost, .int .i64 t.period, .int .i64 t.dead]
        replace hst := hst.alloc (Obj.cells #[.int .i64 t.cost, .int .i64 t.period, .int .i64 t.dead] 24)
        replace hB := hB.alloc hB.size (Obj.cells #[.int .i64 t.cost, .int .i64 t.period, .int .i64 t.dead] 24)
        generalize wr.alloc (Obj.cells #[.int .i64 t.cost, .int .i64 t.period, .int .i64 t.dead] 24) = w5 at *
        generalize wr.heap.size = g5 at *
        clear c0 c1 c2
        have c0 := bk.cell 0 (.int .i64 t.cost) rfl
        have c1 := bk.cell 1 (.int .i64 t.period) rfl
        have c2 := bk.cell 2 (.int .i64 t.dead) rfl
        have HR2 : Hid (∀ m : Aft w5, Calls Try.prog 11 #[.slice (some ⟨b, off, none⟩) k c, .agg #[.int .i64 t.cost, .int .i64 t.period, .int .i64 t.dead], .int .i64 t.dead] m.w fun e w' => e = .returned (.tuple #[.int .i64 (q : Int), .bool (decide (0 < q))]) ∧ Below m.w.heap.size m.w w') := fun m => HR.out m.w (hst.keep m.ok)
        clear HR
        (have aft_c0 := Aft.cell c0; have aft_c1 := Aft.cell c1; have aft_c2 := Aft.cell c2; refine wp_region_aft (by kernel_rfl) (by kernel_rfl) ?_; (repeat (go_big_quiet_step ((go_at_call 11; with_reducible exact aft_call (HR2.out _))))); refine wpQuiet_nil ?_; clear aft_c0 aft_c1 aft_c2; intro w6 hw2_; have hb := Aft.below hw2_; clear hw2_)
        replace hB := bstep hB (Nat.le_refl _) hb
        clear hb
        by_cases hq : q = 0
        · subst hq
          go_wp2_with fail
          go_ret
          exact ⟨by rw [HN.out (by trivial)]; rfl, hB⟩
        · have hq2 : decide (0 < q) = true := decide_eq_true (by omega)
          go_wp2_with fail
          go_roundw
          case rel => exact ⟨k + 1, by omega, by go_num, HM2.out (by omega), hB⟩
          case measure => simp [intOf]; omega
      · obtain rfl : k = l.length := by omega
        go_wp2
        go_ret
        exact ⟨by rw [fixed_yes H.out (fun i hi => HM.out i hi hi)]; rfl, hB⟩
end Go.Proofs.Ytlnpjelanheijaa
