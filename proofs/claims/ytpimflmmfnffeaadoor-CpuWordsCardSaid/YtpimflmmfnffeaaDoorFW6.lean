/- Walks: Split. -/
import Derived.Test.YtpimflmmfnffeaaDoorFW5
namespace Go.Proofs.YtpimflmmfnffeaaDoor
open Go.RowKit

theorem get_at (f : Fl) (x : Int) (w : World) (x0 : 0 ≤ x) (x1 : x < 18446744073709551616) :
    Calls Tryd.prog 25 #[.agg #[.int .i64 f.at_, .int .i64 f.size], .int .u64 x] w fun e w' => e = .returned (.int .u64 (getF f x)) ∧ Below w.heap.size w w' := by
  unfold getF
  cases hr : rightF f
  · exact get_no _ _ _ _ hr
  · have := rightF_t hr
    exact get_yes _ _ _ _ this.1 this.2.1 this.2.2.1 this.2.2.2 x0 x1

theorem info_u64 : (Tryd.prog.info? 22).map (fun i => (i.zero, i.size, i.bytes)) = some (some (.int .u64 0), 1, 8) := by kernel_rfl

theorem elU : Elem Tryd.prog 42 22 1 8 := elem_mk Tryd.underlying42 info_u64 rfl (by omega)

set_option maxRecDepth 100000 in
set_option maxHeartbeats 4000000 in
theorem split_any (A : Option Addr) (l : List Fl) (x : Int) (c : Nat) (w : World) (hs : Sl eF 2 w A l) (h1 : l.length ≤ 40) (x0 : 0 ≤ x) (x1 : x < 18446744073709551616) :
    Calls Tryd.prog 16 #[.slice A l.length c, .int .u64 x] w (RetSl eU 1 22 (l.map (getF · x)) w) := by
  obtain ⟨i0, hi0, hz0, hz1, hz2⟩ := info_parts info_u64
  go_enter Tryd.func16, Tryd.ntmps16
  go_wp2_with (at_make; refine wpList_make_own _ rfl _ _ 42 rfl w.heap.size 22 i0 _ 1 Tryd.underlying42 hi0 hz0 hz1 _ _ _ l.length rfl rfl rfl (by rw [hz2]; omega) (by simp only [maxLen]; omega) (Nat.le_refl _) ?_; intro w4 ownW hg4)
  have hB4 : Below w.heap.size w w4 := (Below.refl _ _).grown hg4 (Nat.le_refl _) (fun k hk => by cases hk)
  clear hg4
  go_loopw [5, 13] (fun v i wr => ∃ (k : Nat) (O : Option Addr) (d : Nat), k ≤ l.length ∧ i = .int .i64 k ∧ v = .slice O k d ∧ Own eU 1 wr w.heap.size 22 O d ((l.take k).map (getF · x)) ∧ Below w.heap.size w wr) (fun _ i _ => l.length - (intOf i).toNat)
  case atStart => exact ⟨0, _, _, Nat.zero_le _, rfl, rfl, ownW, hB4⟩
  case round =>
    clear ownW hB4
    obtain ⟨k, O, d, hk, rfl, rfl, own, hB⟩ := hrel
    by_cases hlt : k < l.length
    · obtain ⟨b, off, rfl, c0, c1⟩ := (hs.keep hB).fl_at hlt
      have HR : Hid (((l.take k).map (getF · x)).length = k) := by simp [Hid]; omega
      have hG := Lib.hid (fun W => get_at l[k] x W x0 x1)
      have HS : Hid ((l.take (k + 1)).map (getF · x) = (l.take k).map (getF · x) ++ [getF l[k] x]) := by unfold Hid; rw [List.take_succ_eq_append_getElem hlt, List.map_append]; rfl
      generalize getF l[k] x = y at *
      go_wp2_with (first | (go_at_call 25; (with_reducible refine (hG.out _).mono ?_); rintro e w5 ⟨rfl, hb⟩; replace own := (own.alloc _).keep hb; replace hB := bstep (hB.alloc hB.size _) (Nat.le_refl _) hb; clear hb; have hBs := hB.size) | (at_builtin; refine wpList_append_sl _ rfl _ _ rfl elU eU_ok (own.alloc _) (n := k) HR.out rfl (m := 1) rfl (ys := [y]) rfl (Sl.new eU_ok w5 _ _ rfl _) (by simp only [maxLen]; omega) (by omega) (by simp; omega) _ rfl (k + 1) rfl ?_; intro A1 e1 w1 own1 hg1 at1))
      go_roundw
      case rel => exact ⟨k + 1, A1, e1, by omega, by go_num, rfl, by rw [HS.out]; exact own1, (hB.alloc hB.size _).grown hg1 (by simp; omega) (fun q hq => (own.lt q hq).1)⟩
      case measure => simp [intOf]; omega
    · obtain rfl : k = l.length := by omega
      go_wp2
      go_ret
      exact ⟨O, d, by simp, by simpa using own, hB⟩
theorem info_f : (Tryd.prog.info? 64).map (fun i => (i.zero, i.size, i.bytes)) = some (some (.agg #[.int .i64 0, .int .i64 0]), 2, 16) := by kernel_rfl

theorem elF : Elem Tryd.prog 40 64 2 16 := elem_mk Tryd.underlying40 info_f rfl (by omega)

theorem Sl.fl_c {w : World} {b off : Nat} {xs : List Fl} {i : Nat} (h : Sl eF 2 w (some ⟨b, off, none⟩) xs) (hi : i < xs.length) :
    w.cell? ⟨b, off + i * 2, none⟩ = some (.int .i64 xs[i].at_) ∧ w.cell? ⟨b, off + i * 2 + 1, none⟩ = some (.int .i64 xs[i].size) := by
  obtain ⟨b', off', heq, h1, h2⟩ := h.fl_at hi
  injection heq with heq
  injection heq with q1 q2
  subst q1 q2
  exact ⟨h1, h2⟩

theorem Sl.fl_0 {w : World} {b off : Nat} {xs : List Fl} (h : Sl eF 2 w (some ⟨b, off, none⟩) xs) (hi : 0 < xs.length) :
    w.cell? ⟨b, off, none⟩ = some (.int .i64 xs[0].at_) ∧ w.cell? ⟨b, off + 1, none⟩ = some (.int .i64 xs[0].size) := by
  have := h.fl_c hi
  simpa using this

theorem Sl.u_c {w : World} {b off : Nat} {xs : List Int} {i : Nat} (h : Sl eU 1 w (some ⟨b, off, none⟩) xs) (hi : i < xs.length) : w.cell? ⟨b, off + i, none⟩ = some (.int .u64 xs[i]) := by
  obtain ⟨b', off', heq, h1⟩ := h.u64_at hi
  injection heq with heq
  injection heq with q1 q2
  subst q1 q2
  exact h1

theorem getF_lt (f : Fl) (x : Int) : 0 ≤ getF f x ∧ getF f x < 18446744073709551616 := by
  unfold getF
  cases hr : rightF f
  · simp
  · have h1 := rightF_t hr
    have : Fld.getN f.at_.toNat f.size.toNat x.toNat < 2 ^ f.size.toNat := by unfold Fld.getN; exact Nat.mod_lt _ (Nat.two_pow_pos _)
    have h2 : 2 ^ f.size.toNat ≤ 2 ^ 64 := Nat.pow_le_pow_right (by omega) (by omega)
    simp only [if_true]
    omega

theorem get_num {l : List Fl} {n : List Int} (h0 : ∀ x ∈ n, 0 ≤ x) (hj : joinB l n l.length = true) (h : l.length = n.length) (i : Nat) (hi : i < l.length) : getF l[i] ((wordN l n l.length : Nat) : Int) = n[i]'(by omega) := by
  have h1 := word_get h0 hj (Nat.le_refl _) (by omega) i hi
  have h2 := (joinB_right hj (Nat.le_refl _) (by omega) hi).1
  unfold getF
  rw [h2]
  simpa using h1
end Go.Proofs.YtpimflmmfnffeaaDoor
