/- Walk: the first bad stretch. -/
import Derived.Test.YtkhbnklaglnfdaaTW4
import Derived.Test.YtkhbnklaglnfdaaTW3
import Derived.Test.YtkhbnklaglnfdaaBM1
import Derived.Test.YtkhbnklaglnfdaaBlk
namespace Go.Proofs.Ytkhbnklaglnfdaa.Busy
open Go.RowKit

theorem okN_f {l : List Tk} {n : Int} (h : ¬ (0 ≤ n ∧ n ≤ 1048576)) : okN l n = false := by unfold okN; rw [decide_eq_false h, Bool.and_false]

theorem okN_a {l : List Tk} {n : Int} (h : allT l = false) : okN l n = false := by unfold okN; rw [h]; rfl

theorem okN_t {l : List Tk} {n : Int} (h : allT l = true) (h0 : 0 ≤ n) (h1 : n ≤ 1048576) : okN l n = true := by unfold okN; rw [h, decide_eq_true ⟨h0, h1⟩]; rfl

theorem okN_get {l : List Tk} {n : Int} (h : okN l n = true) : allT l = true ∧ 0 ≤ n ∧ n ≤ 1048576 := by
  unfold okN at h
  rw [Bool.and_eq_true] at h
  exact ⟨h.1, of_decide_eq_true h.2⟩

/-- a number, and whether it is one -/
def numV (n : Nat) : Value := .tuple #[.int .i64 n, .bool (decide (0 < n))]

theorem find_some_at {p : Int → Bool} {xs : List Int} {k : Nat} (hk : k < xs.length) (h : p xs[k] = true) (hm : ∀ i (hi : i < xs.length), i < k → p xs[i] = false) : xs.find? p = some xs[k] := by
  rw [List.find?_eq_some_iff_getElem]
  refine ⟨h, k, hk, rfl, fun j hj => ?_⟩
  rw [hm j (by omega) hj]; rfl

theorem find_none_at {p : Int → Bool} {xs : List Int} (hm : ∀ i (hi : i < xs.length), p xs[i] = false) : xs.find? p = none := by
  rw [List.find?_eq_none]
  intro x hx
  obtain ⟨i, hi, rfl⟩ := List.mem_iff_getElem.1 hx
  rw [hm i hi]; simp

set_option maxRecDepth 100000 in
set_option maxHeartbeats 4000000 in
theorem bad_any (A : Option Addr) (l : List Tk) (c : Nat) (n : Int) (w : World) (hs : Sl eT 3 w A l) (hm : l.length ≤ 9223372036854775807) :
    Calls Try.prog 16 #[.slice A l.length c, .int .i64 n] w fun e w' => e = .returned (numV (badV l n)) ∧ Below w.heap.size w w' := by
  have HP := Lib.hid (tPoints_any A l c n w hs hm)
  cases hok : okN l n
  · have hv : badV l n = 0 := by unfold badV; rw [hok]; rfl
    have hp : ptsV l n = [] := by
      unfold ptsV
      have : (allT l && strT n) = okN l n := rfl
      rw [this, hok]; rfl
    rw [hv]
    rw [hp] at HP
    go_enter Try.func16, Try.ntmps16
    go_wp2_with fail
    refine HP.out.mono ?_
    rintro e w2 ⟨O, d, rfl, own, hB⟩
    go_wp2_with fail
    refine wp_loop_rounds 1 ?_
    rw [rounds_succ]
    go_wp2
    go_ret2
    exact ⟨rfl, hB⟩
  · obtain ⟨ha, h0, h1⟩ := okN_get hok
    obtain ⟨u, rfl⟩ := Int.eq_ofNat_of_zero_le h0
    have hr := allT_mem ha
    have hp : ptsV l u = ptsTo l (u + 1) := by
      unfold ptsV
      have : (allT l && strT (u : Int)) = okN l u := rfl
      rw [this, hok]; rfl
    have HV := Lib.hid (bad_ref hr hok)
    have HE : Hid (∀ x ∈ ptsTo l (u + 1), 1 ≤ x ∧ x ≤ 1048576) := fun x hx => by
      have h2 := pts_mem.1 hx
      obtain ⟨t, ht, hp⟩ := isPt_t h2.2.2
      have h3 := rightT_t (hr t ht)
      have h4 := of_decide_eq_true hp
      omega
    rw [hp] at HP
    have HA := Lib.hid ha
    have hpl := pts_len l (u + 1)
    generalize ptsTo l (u + 1) = xs at *
    clear hok ha hr hp
    go_enter Try.func16, Try.ntmps16
    go_wp2_with fail
    refine HP.out.mono ?_
    rintro e w2 ⟨O, d, rfl, own, hB⟩
    have hsp := own.sl eI_ok
    clear own
    go_wp2_with fail
    go_loopw [12] (fun i wr => ∃ k : Nat, k ≤ xs.length ∧ i = .int .i64 k ∧ Hid (∀ i (hi : i < xs.length), i < k → badP l xs[i] = false) ∧ Below w2.heap.size w2 wr) (fun i _ => xs.length - (intOf i).toNat)
    case atStart => exact ⟨0, Nat.zero_le _, rfl, fun i _ hi => absurd hi (by omega), Below.refl _ _⟩
    case round =>
      obtain ⟨k, hk, rfl, HM, hb⟩ := hrel
      by_cases hlt : k < xs.length
      · obtain ⟨b, off, rfl, c0⟩ := (hsp.keep hb).int_at hlt
        have k0 : (0 : Int) ≤ (k : Int) := by omega
        have k1 : (k : Int) < (xs.length : Int) := by omega
        have hx := HE.out _ (List.getElem_mem hlt)
        have HD := Lib.hid (tDemand_yes A l c xs[k] wr (hs.keep (bstep hB (Nat.le_refl _) hb)) hm HA.out (by omega) hx.2)
        have HF := Lib.hid (fun hp => find_some_at (p := badP l) hlt hp HM.out)
        have HM2 : Hid (badP l xs[k] = false → ∀ i (hi : i < xs.length), i < k + 1 → badP l xs[i] = false) := fun hp i hi hik => by
          by_cases he : i = k
          · subst he; exact hp
          · exact HM.out i hi (by omega)
        have HB : Hid (badP l xs[k] = decide (xs[k] < demL l xs[k])) := rfl
        clear HM
        generalize badP l xs[k] = q at *
        generalize demL l xs[k] = D at *
        generalize xs[k] = x at *
        by_cases hxd : x < D
        · have hq : q = true := by rw [HB.out]; exact decide_eq_true hxd
          go_wp2_with (go_at_call 25; (with_reducible refine HD.out.mono ?_); rintro e w4 ⟨rfl, hb4⟩; replace hb := bstep hb (Nat.le_refl _) hb4; clear hb4)
          go_ret2
          have hv := HV.out
          rw [HF.out hq] at hv
          have hx0 : 0 < x := by omega
          have hvn : badV l u = x.toNat := by simp at hv; omega
          refine ⟨?_, bstep hB (Nat.le_refl _) hb⟩
          rw [hvn]
          unfold numV
          rw [decide_eq_true (show 0 < x.toNat by omega), Int.toNat_of_nonneg (by omega)]
          rfl
        · have hq : q = false := by rw [HB.out]; exact decide_eq_false hxd
          go_wp2_with (go_at_call 25; (with_reducible refine HD.out.mono ?_); rintro e w4 ⟨rfl, hb4⟩; replace hb := bstep hb (Nat.le_refl _) hb4; clear hb4)
          go_roundw
          case rel => exact ⟨k + 1, by omega, by go_num, HM2.out hq, hb⟩
          case measure => simp [intOf]; omega
      · obtain rfl : k = xs.length := by omega
        go_wp2
        go_ret2
        have hv := HV.out
        rw [find_none_at (fun i hi => HM.out i hi hi)] at hv
        have hvn : badV l u = 0 := by simp at hv; omega
        exact ⟨by rw [hvn]; rfl, bstep hB (Nat.le_refl _) hb⟩

end Go.Proofs.Ytkhbnklaglnfdaa.Busy
