/- Walks: whether reservations are together at most the whole processor. -/
import Derived.Test.YtdpjencnfladlaaW4
import Derived.Test.YtdpjencnfladlaaQW7
import Derived.Test.YtdpjencnfladlaaQW6
import Derived.Test.YtdpjencnfladlaaApp
import Derived.Deep.DeepCutAuto
namespace Go.Proofs.Ytdpjencnfladlaa
open Go.RowKit

structure Rs where
  b : Int
  p : Int
def eS (r : Rs) : List Value := [.int .i64 r.b, .int .i64 r.p]
theorem eS_ok : EncOk eS 2 := ⟨fun _ => rfl, fun x u hu => by simp [eS] at hu; rcases hu with rfl | rfl <;> rfl⟩
theorem Sl.rs_at {w : World} {A : Option Addr} {xs : List Rs} {i : Nat} (h : Sl eS 2 w A xs) (hi : i < xs.length) :
    ∃ b off, A = some ⟨b, off, none⟩ ∧ w.cell? ⟨b, off + i * 2, none⟩ = some (.int .i64 xs[i].b) ∧ w.cell? ⟨b, off + i * 2 + 1, none⟩ = some (.int .i64 xs[i].p) := by
  obtain ⟨b, off, hA, hc⟩ := h.at_ hi
  exact ⟨b, off, hA, by simpa using hc 0 _ (show (eS xs[i])[0]? = some (.int .i64 xs[i].b) from rfl), by simpa [Nat.add_assoc] using hc 1 _ (show (eS xs[i])[1]? = some (.int .i64 xs[i].p) from rfl)⟩
def okR (r : Rs) : Bool := resB r.b r.p
def shR (r : Rs) : Rat.Rt := ⟨(Rat.makeR r.b.toNat r.p.toNat).num, (Rat.makeR r.b.toNat r.p.toNat).den⟩
def sumS (l : List Rs) : Rat.Rat3 := Rat.sumR 0 1 (l.map shR)
def fitsB (l : List Rs) : Bool := l.all okR && (decide ((sumS l).err = 0) && decide ((sumS l).num ≤ (sumS l).den))
theorem okR_t {r : Rs} (h : okR r = true) : 1 ≤ r.b ∧ r.b ≤ r.p ∧ r.p ≤ 1048576 := of_decide_eq_true h
theorem fits_no {l : List Rs} (h : l.all okR = false) : fitsB l = false := by unfold fitsB; rw [h]; rfl
theorem fits_err {l : List Rs} (h : ¬ (sumS l).err = 0) : fitsB l = false := by unfold fitsB; simp [h]
theorem fits_yes {l : List Rs} (h : l.all okR = true) (he : (sumS l).err = 0) : fitsB l = decide ((sumS l).num ≤ (sumS l).den) := by unfold fitsB; rw [h]; simp [he]
theorem addR_den {an ad bn bd : Nat} (h : (Rat.addR an ad bn bd).err = 0) : 0 < (Rat.addR an ad bn bd).den := by
  unfold Rat.addR at h ⊢
  split
  · rename_i hr
    rw [Bool.and_eq_true] at hr
    split
    · have h1 := Rat.rightR_t hr.1
      have h2 := Rat.rightR_t hr.2
      have hg : 0 < Nat.gcd ad bd := Nat.gcd_pos_of_pos_right _ h2.1
      have hD : 0 < ad / Nat.gcd ad bd * bd := Nat.mul_pos (Nat.div_pos (Nat.gcd_le_left bd h1.1) hg) h2.1
      unfold Rat.makeR
      exact Nat.div_pos (Nat.gcd_le_right _ hD) (Nat.gcd_pos_of_pos_right _ hD)
    · rename_i hn
      rw [if_pos (by rw [hr.1, hr.2]; rfl), if_neg hn] at h
      cases h
  · rename_i hr
    rw [if_neg hr] at h
    cases h
theorem sumR_den : ∀ (l : List Rat.Rt) (n d : Nat), 0 < d → (Rat.sumR n d l).err = 0 → 0 < (Rat.sumR n d l).den
  | [], n, d, hd, _ => hd
  | r :: rs, n, d, hd, h => by
    unfold Rat.sumR at h ⊢
    split
    · rename_i he
      rw [if_pos he] at h
      exact sumR_den rs _ _ (addR_den he) h
    · rename_i he
      rw [if_neg he] at h
      exact absurd h he
theorem sumR_lt : ∀ (l : List Rat.Rt) (n d : Nat), n < 18446744073709551616 → d < 18446744073709551616 → (Rat.sumR n d l).num < 18446744073709551616 ∧ (Rat.sumR n d l).den < 18446744073709551616
  | [], n, d, hn, hd => ⟨hn, hd⟩
  | r :: rs, n, d, hn, hd => by
    unfold Rat.sumR
    split
    · exact sumR_lt rs _ _ (Rat.addR_lt _ _ _ _).1 (Rat.addR_lt _ _ _ _).2
    · simp
theorem shR_lt {r : Rs} (h : okR r = true) : (shR r).num < 18446744073709551616 ∧ (shR r).den < 18446744073709551616 := by
  have := okR_t h
  exact Rat.makeR_lt (by omega) (by omega)
theorem all_take {l : List Rs} {k : Nat} (hk : k < l.length) (h0 : (l.take k).all okR = true) (h : okR l[k] = true) : (l.take (k + 1)).all okR = true := by
  rw [List.take_succ_eq_append_getElem hk, List.all_append, h0]; simp [h]
theorem all_bad {l : List Rs} {k : Nat} (hk : k < l.length) (h : okR l[k] = false) : l.all okR = false := by
  rw [List.all_eq_false]
  exact ⟨l[k], List.getElem_mem _, by simp [h]⟩
theorem cmp_le (n d : Nat) : (decide (Rat.cmpI (n * 1) (1 * d) ≤ 0)) = decide (n ≤ d) := by
  rw [Nat.mul_one, Nat.one_mul, Bool.eq_iff_iff]
  unfold Rat.cmpI
  simp only [decide_eq_true_eq]
  split
  · omega
  · split <;> omega

theorem info_q : (Try.prog.info? 39).map (fun i => (i.zero, i.size, i.bytes)) = some (some (.agg #[.int .u64 0, .int .u64 0]), 2, 16) := by kernel_rfl
theorem elQ : Elem Try.prog 53 39 2 16 := elem_mk Try.underlying53 info_q rfl (by omega)

set_option maxRecDepth 100000 in
set_option maxHeartbeats 4000000 in
theorem sfits_any (A : Option Addr) (l : List Rs) (c : Nat) (w : World) (hs : Sl eS 2 w A l) (h1 : l.length ≤ 20) :
    Calls Try.prog 20 #[.slice A l.length c] w fun e w' => e = .returned (.bool (fitsB l)) ∧ Below w.heap.size w w' := by
  obtain ⟨i0, hi0, hz0, hz1, hz2⟩ := info_parts info_q
  go_enter Try.func20, Try.ntmps20
  go_wp2_with (at_make; refine wpList_make_own _ rfl _ _ 53 rfl w.heap.size 39 i0 _ 2 Try.underlying53 hi0 hz0 hz1 _ _ _ l.length rfl rfl rfl (by rw [hz2]; omega) (by simp only [maxLen]; omega) (Nat.le_refl _) ?_; intro w4 ownW hg4)
  have hB4 : Below w.heap.size w w4 := (Below.refl _ _).grown hg4 (Nat.le_refl _) (fun k hk => by cases hk)
  clear hg4
  go_loopw [3, 13] (fun v i wr => ∃ (k : Nat) (O : Option Addr) (d : Nat), k ≤ l.length ∧ i = .int .i64 k ∧ v = .slice O k d ∧ Own Rat.eR 2 wr w.heap.size 39 O d ((l.take k).map shR) ∧ Hid ((l.take k).all okR = true) ∧ Below w.heap.size w wr) (fun _ i _ => l.length - (intOf i).toNat)
  case atStart => exact ⟨0, _, _, Nat.zero_le _, rfl, rfl, ownW, rfl, hB4⟩
  case round =>
    clear ownW hB4
    obtain ⟨k, O, d, hk, rfl, rfl, own, HA, hB⟩ := hrel
    by_cases hlt : k < l.length
    · obtain ⟨b, off, rfl, c0, c1⟩ := (hs.keep hB).rs_at hlt
      have HR : Hid (((l.take k).map shR).length = k) := by simp [Hid]; omega
      have HS : Hid ((l.take (k + 1)).map shR = (l.take k).map shR ++ [shR l[k]]) := by unfold Hid; rw [List.take_succ_eq_append_getElem hlt, List.map_append]; rfl
      have HT := Lib.hid (all_take hlt HA.out)
      have HF := Lib.hid (all_bad hlt)
      have hRi := Lib.hid (fun W => right_any l[k].b l[k].p W)
      have hBs := hB.size
      have k0 : (0 : Int) ≤ (k : Int) := by omega
      have k1 : (k : Int) < (l.length : Int) := by omega
      cases hr : okR l[k]
      · have HN := Lib.hid (fits_no (HF.out hr))
        have hr2 : resB l[k].b l[k].p = false := hr
        rw [hr2] at hRi
        clear hr2
        generalize l[k] = r at *
        go_wp2_with (go_at_call 16; (with_reducible refine (hRi.out _).mono ?_); rintro e w5 ⟨rfl, hb⟩; replace hB := bstep (hB.alloc hB.size _) (Nat.le_refl _) hb; clear hb)
        go_ret
        exact ⟨ret_bool HN.out.symm, hB⟩
      · have hr2 : resB l[k].b l[k].p = true := hr
        rw [hr2] at hRi
        have hp := okR_t hr
        have hSh : Hid (∀ W, Calls Try.prog 17 #[.agg #[.int .i64 l[k].b, .int .i64 l[k].p]] W fun e w' => e = .returned (.agg #[.int .u64 ((shR l[k]).num : Int), .int .u64 ((shR l[k]).den : Int)]) ∧ Below W.heap.size W w') := fun W => by
          have := share_yes l[k].b.toNat l[k].p.toNat W (by omega) (by omega) (by omega)
          rw [Int.toNat_of_nonneg (by omega), Int.toNat_of_nonneg (by omega)] at this
          exact this
        have HT2 := Lib.hid (HT.out hr)
        clear hr2 hp hr HT HF
        generalize shR l[k] = q at *
        generalize l[k] = r at *
        go_wp2_with (first | (go_at_call 16; (with_reducible refine (hRi.out _).mono ?_); rintro e w5 ⟨rfl, hb⟩; replace own := (own.alloc _).keep hb; have d0 := kcell hb (Blk.cell (Blk.new wr 25 #[.int .i64 r.b, .int .i64 r.p]) 0 (.int .i64 r.b) rfl); have d1 := kcell hb (Blk.cell (Blk.new wr 25 #[.int .i64 r.b, .int .i64 r.p]) 1 (.int .i64 r.p) rfl); replace hB := bstep (hB.alloc hB.size _) (Nat.le_refl _) hb; clear hb) | (go_at_call 17; (with_reducible refine (hSh.out _).mono ?_); rintro e w6 ⟨rfl, hb⟩; replace own := own.keep hb; replace hB := bstep hB (Nat.le_refl _) hb; clear hb d0 d1; replace hBs := hB.size) | (at_builtin; refine wpList_append_sl _ rfl _ _ rfl elQ Rat.eR_ok (own.alloc _) (n := k) HR.out rfl (m := 1) rfl (ys := [q]) rfl (Sl.new Rat.eR_ok w6 _ _ rfl _) (by simp only [maxLen]; omega) (by omega) (by simp; omega) _ rfl (k + 1) rfl ?_; intro A1 e1 w1 own1 hg1 at1))
        go_roundw
        case rel => exact ⟨k + 1, A1, e1, by omega, by go_num, rfl, by rw [HS.out]; exact own1, HT2.out, (hB.alloc hB.size _).grown hg1 (by simp; omega) (fun q hq => (own.lt q hq).1)⟩
        case measure => simp [intOf]; omega
    · obtain rfl : k = l.length := by omega
      rw [List.take_length] at own HA
      have hsl := own.sl Rat.eR_ok
      have hlm : (l.map shR).length = l.length := List.length_map _
      have hSum := fun W h => Rat.sum_any O (l.map shR) d W h (by rw [hlm]; omega) (fun r hr => by
        obtain ⟨x, hx, rfl⟩ := List.mem_map.1 hr
        exact shR_lt (List.all_eq_true.1 HA.out x hx))
      rw [hlm] at hSum
      clear hlm
      have HE := Lib.hid (fits_err (l := l))
      have HY := Lib.hid (fits_yes (l := l) HA.out)
      have HD : Hid ((sumS l).err = 0 → 0 < (sumS l).den) := sumR_den _ 0 1 (by omega)
      obtain ⟨t1, t2⟩ : (sumS l).num < 18446744073709551616 ∧ (sumS l).den < 18446744073709551616 := sumR_lt _ 0 1 (by omega) (by omega)
      have hSum2 : Hid (∀ W, Sl Rat.eR 2 W O (l.map shR) → Calls Try.prog 26 #[.slice O l.length d] W fun e w' => e = .returned (.tuple #[.agg #[.int .u64 ((sumS l).num : Int), .int .u64 ((sumS l).den : Int)], .int .i64 ((sumS l).err : Int)]) ∧ Below W.heap.size W w') := hSum
      clear hSum
      generalize sumS l = t at *
      obtain ⟨tn, td, te⟩ := t
      simp only at HE HY HD t1 t2 hSum2
      by_cases he : te = 0
      · subst he
        have hd0 := HD.out rfl
        have hC : Hid (∀ W, Calls Try.prog 27 #[.agg #[.int .u64 tn, .int .u64 td], .agg #[.int .u64 1, .int .u64 1]] W fun e w' => e = .returned (.int .i64 (Rat.cmpI (tn * 1) (1 * td))) ∧ Below W.heap.size W w') := fun W => Rat.compare_yes tn td 1 1 W t1 t2 (by omega) (by omega) hd0 (by omega)
        have HV : Hid (decide (Rat.cmpI (tn * 1) (1 * td) ≤ 0) = fitsB l) := by unfold Hid; rw [cmp_le, HY.out rfl]
        generalize Rat.cmpI (tn * 1) (1 * td) = cv at *
        go_wp2_with fail
        refine (hSum2.out _ hsl).mono ?_
        rintro e w5 ⟨rfl, hb⟩
        replace hB := bstep hB (Nat.le_refl _) hb
        clear hb
        go_wp2_with (go_at_call 27; (with_reducible refine (hC.out _).mono ?_); rintro e w6 ⟨rfl, hb⟩; replace hB := bstep (hB.alloc hB.size _) (Nat.le_refl _) hb; clear hb)
        go_ret
        exact ⟨ret_bool HV.out, hB⟩
      · have HN := Lib.hid (HE.out he)
        have he1 : ((te : Int) == 0) = false := by simp; omega
        go_wp2_with fail
        refine (hSum2.out _ hsl).mono ?_
        rintro e w5 ⟨rfl, hb⟩
        replace hB := bstep hB (Nat.le_refl _) hb
        clear hb
        go_wp2_with fail
        go_ret
        exact ⟨ret_bool HN.out.symm, hB.alloc hB.size _⟩
end Go.Proofs.Ytdpjencnfladlaa
