/- Walks: the document's Join; Split. -/
import Derived.Test.YtcenphlgclmjnaaW5
namespace Go.Proofs.Ytcenphlgclmjnaa
open Go.RowKit

theorem any_snoc {l : List Fl} {f : Fl} {m k : Nat} (hm : m < l.length) (hk : m < k) (hk2 : k ≤ l.length) (h : apartB f l[m] = false) : (l.take k).any (fun g => !apartB f g) = true := by
  rw [List.any_eq_true]
  refine ⟨l[m], ?_, by simp [h]⟩
  rw [List.mem_take_iff_getElem]
  exact ⟨m, by omega, rfl⟩
theorem any_step {l : List Fl} {f : Fl} {m : Nat} (hm : m < l.length) (h0 : (l.take m).any (fun g => !apartB f g) = false) (h : apartB f l[m] = true) : (l.take (m + 1)).any (fun g => !apartB f g) = false := by
  rw [List.take_succ_eq_append_getElem hm, List.any_append, h0]
  simp [h]

set_option maxRecDepth 100000 in
set_option maxHeartbeats 4000000 in
theorem refJoin_any (A B : Option Addr) (l : List Fl) (n : List Int) (c d : Nat) (w : World) (hs : Sl eF 2 w A l) (hn : Sl eU 1 w B n) (h : l.length = n.length) (h1 : l.length ≤ 40) (hn0 : ∀ x ∈ n, 0 ≤ x) :
    Calls Try.prog 21 #[.slice A l.length c, .slice B n.length d] w fun e w' => e = .returned (joinW l n) ∧ Below w.heap.size w w' := by
  have HL := Lib.hid h
  have hl2 : l.length ≤ n.length := by omega
  have HN0 := Lib.hid hn0
  clear h hn0
  go_enter Try.func21, Try.ntmps21
  go_wp2
  go_loopw [6, 7] (fun wd i wr => ∃ (k : Nat) (x : Nat), k ≤ l.length ∧ i = .int .i64 k ∧ wd = .int .u64 x ∧ Hid (joinB l n k = true) ∧ Hid (x = wordN l n k) ∧ Below w.heap.size w wr) (fun _ i _ => l.length - (intOf i).toNat)
  case atStart => exact ⟨0, 0, Nat.zero_le _, rfl, rfl, rfl, rfl, Below.refl _ _⟩
  case round =>
    obtain ⟨k, x, hk, rfl, rfl, HJ, HX, hB⟩ := hrel
    obtain ⟨wo, rfl⟩ : ∃ wo : World, wo = wr := ⟨_, rfl⟩
    by_cases hlt : k < l.length
    · have hlt2 : k < n.length := by omega
      have hx : x < 18446744073709551616 := by have := wordN_lt HN0.out HJ.out hk (by omega); rw [← HX.out] at this; exact this
      have hnk : 0 ≤ n[k] := HN0.out _ (List.getElem_mem _)
      have HJN := Lib.hid (join_no (l := l) (n := n) hlt hlt2)
      have HJY := Lib.hid (join_yes (l := l) (n := n) hlt hlt2 HJ.out)
      have HWS := Lib.hid (wordN_succ l n k hlt hlt2)
      have k0 : (0 : Int) ≤ (k : Int) := by omega
      have k1 : (k : Int) < (l.length : Int) := by omega
      have k2 : (k : Int) < (n.length : Int) := by omega
      go_wp2
      go_loopw [8] (fun i wi => ∃ m : Nat, m ≤ k ∧ i = .int .i64 m ∧ Hid ((l.take m).any (fun g => !apartB l[k] g) = false) ∧ Below w.heap.size w wi) (fun i _ => k - (intOf i).toNat)
      case atStart => exact ⟨0, Nat.zero_le _, rfl, by simp [Hid], hB⟩
      case round =>
        clear hB
        obtain ⟨m, hm, rfl, HA, hB⟩ := hrel
        obtain ⟨b, off, rfl, c0, c1⟩ := (hs.keep hB).fl_at hlt
        by_cases hmk : m < k
        · obtain ⟨b', off', heq, e0, e1⟩ := (hs.keep hB).fl_at (show m < l.length by omega)
          injection heq with heq
          injection heq with hq1 hq2
          subst hq1 hq2
          have m0 : (0 : Int) ≤ (m : Int) := by omega
          have m1 : (m : Int) < (l.length : Int) := by omega
          have hAP := Lib.hid (fun W => refApart_any l[k] l[m] W)
          cases hap : apartB l[k] l[m]
          · have HF := Lib.hid (HJN.out (bad_any (any_snoc (show m < l.length by omega) hmk (by omega) hap)))
            go_wp2
            go_region_held3 (fun w' => Below wr.heap.size wr w' ∧ w'.cell? ⟨b, off + k * 2, none⟩ = some (.int .i64 l[k].at_) ∧ w'.cell? ⟨b, off + k * 2 + 1, none⟩ = some (.int .i64 l[k].size) ∧ w'.cell? ⟨b, off + m * 2, none⟩ = some (.int .i64 l[m].at_) ∧ w'.cell? ⟨b, off + m * 2 + 1, none⟩ = some (.int .i64 l[m].size))
              (first | exact ⟨(Below.refl _ _).drew, c0, c1, e0, e1⟩ | exact keep4 ‹_› hb)
              (first | (go_at_call 19; (with_reducible refine (hAP.out _).mono ?_); rintro e w4 ⟨rfl, hb⟩; rw [hap]))
            rename_i hH
            go_wp2
            go_ret2
            exact ⟨by unfold joinW; rw [HF.out]; rfl, bstep hB (Nat.le_refl _) hH.1⟩
          · have HF := Lib.hid (any_step (show m < l.length by omega) HA.out hap)
            go_wp2
            go_region_held3 (fun w' => Below wr.heap.size wr w' ∧ w'.cell? ⟨b, off + k * 2, none⟩ = some (.int .i64 l[k].at_) ∧ w'.cell? ⟨b, off + k * 2 + 1, none⟩ = some (.int .i64 l[k].size) ∧ w'.cell? ⟨b, off + m * 2, none⟩ = some (.int .i64 l[m].at_) ∧ w'.cell? ⟨b, off + m * 2 + 1, none⟩ = some (.int .i64 l[m].size))
              (first | exact ⟨(Below.refl _ _).drew, c0, c1, e0, e1⟩ | exact keep4 ‹_› hb)
              (first | (go_at_call 19; (with_reducible refine (hAP.out _).mono ?_); rintro e w4 ⟨rfl, hb⟩; rw [hap]))
            rename_i hH
            have hB2 := bstep hB (Nat.le_refl _) hH.1
            clear hH hb c0 c1 e0 e1
            go_wp2
            go_roundw
            case rel => exact ⟨m + 1, by omega, by go_num, HF.out, hB2⟩
            case measure => simp [intOf]; omega
        · obtain rfl : m = k := by omega
          obtain ⟨b2, off2, rfl, c2⟩ := (hn.keep hB).u64_at hlt2
          generalize l[m] = f at *
          generalize n[m] = y at *
          by_cases hr : rightF f = true
          · have hp := rightF_t hr
            obtain ⟨p1, p2, p3, p4⟩ := hp
            by_cases hbig : mostI f.size < y
            · have HF := Lib.hid (HJN.out (bad_big hbig))
              go_wp2
              go_region_held3 (fun w' => Below wr.heap.size wr w' ∧ w'.cell? ⟨b, off + m * 2, none⟩ = some (.int .i64 f.at_) ∧ w'.cell? ⟨b, off + m * 2 + 1, none⟩ = some (.int .i64 f.size) ∧ w'.cell? ⟨b2, off2 + m, none⟩ = some (.int .u64 y))
                (first | exact ⟨(Below.refl _ _).drew, c0, c1, c2⟩ | exact keep3 ‹_› hb)
                (first | (go_at_call 8; (with_reducible refine (refPut_big f.at_ f.size _ y _ p1 p2 p3 p4 hbig).mono ?_); rintro e w4 ⟨rfl, hb⟩))
              rename_i hH
              go_wp2
              go_ret2
              exact ⟨by unfold joinW; rw [HF.out]; rfl, bstep hB (Nat.le_refl _) hH.1⟩
            · have hle : y ≤ mostI f.size := by omega
              have hput := Lib.hid (fun W => refPut_yes f.at_ f.size x y W p1 p2 p3 p4 (by omega) (by omega) hnk hle)
              rw [Int.toNat_natCast] at hput
              have HY := Lib.hid (HJY.out (bad_none hr hbig HA.out))
              have HXN : Hid (Fld.putN f.at_.toNat f.size.toNat x y.toNat = wordN l n (m + 1)) := by unfold Hid; rw [HWS.out, HX.out]
              generalize Fld.putN f.at_.toNat f.size.toNat x y.toNat = x2 at *
              go_wp2
              go_region_held3 (fun w' => Below wr.heap.size wr w' ∧ w'.cell? ⟨b, off + m * 2, none⟩ = some (.int .i64 f.at_) ∧ w'.cell? ⟨b, off + m * 2 + 1, none⟩ = some (.int .i64 f.size) ∧ w'.cell? ⟨b2, off2 + m, none⟩ = some (.int .u64 y))
                (first | exact ⟨(Below.refl _ _).drew, c0, c1, c2⟩ | exact keep3 ‹_› hb)
                (first | (go_at_call 8; (with_reducible refine (hput.out _).mono ?_); rintro e w4 ⟨rfl, hb⟩))
              rename_i hH
              have hB2 := bstep hB (Nat.le_refl _) hH.1
              clear hH hb c0 c1 c2
              go_wp2
              go_roundw
              case rel => exact ⟨m + 1, x2, by omega, by go_num, rfl, HY.out, HXN.out, hB2⟩
              case measure => simp [intOf]; omega
          · have hr' : rightF f = false := by simpa using hr
            have HF := Lib.hid (HJN.out (bad_right hr'))
            have hr2 : rightB f.at_ f.size = false := hr'
            clear hr
            go_wp2
            go_region_held3 (fun w' => Below wr.heap.size wr w' ∧ w'.cell? ⟨b, off + m * 2, none⟩ = some (.int .i64 f.at_) ∧ w'.cell? ⟨b, off + m * 2 + 1, none⟩ = some (.int .i64 f.size) ∧ w'.cell? ⟨b2, off2 + m, none⟩ = some (.int .u64 y))
              (first | exact ⟨(Below.refl _ _).drew, c0, c1, c2⟩ | exact keep3 ‹_› hb)
              (first | (go_at_call 8; (with_reducible refine (refPut_no f.at_ f.size _ y _ hr2).mono ?_); rintro e w4 ⟨rfl, hb⟩))
            rename_i hH
            go_wp2
            go_ret2
            exact ⟨by unfold joinW; rw [HF.out]; rfl, bstep hB (Nat.le_refl _) hH.1⟩
    · obtain rfl : k = l.length := by omega
      go_wp2
      go_ret2
      exact ⟨by unfold joinW; rw [HJ.out, HX.out]; rfl, hB⟩

/-! what stands in a field, every field -/
theorem get_at (f : Fl) (x : Int) (w : World) (x0 : 0 ≤ x) (x1 : x < 18446744073709551616) :
    Calls Try.prog 9 #[.agg #[.int .i64 f.at_, .int .i64 f.size], .int .u64 x] w fun e w' => e = .returned (.int .u64 (getF f x)) ∧ Below w.heap.size w w' := by
  unfold getF
  cases hr : rightF f
  · exact get_no _ _ _ _ hr
  · have := rightF_t hr
    exact get_yes _ _ _ _ this.1 this.2.1 this.2.2.1 this.2.2.2 x0 x1
theorem refGet_at (f : Fl) (x : Int) (w : World) (x0 : 0 ≤ x) (x1 : x < 18446744073709551616) :
    Calls Try.prog 15 #[.agg #[.int .i64 f.at_, .int .i64 f.size], .int .u64 x] w fun e w' => e = .returned (.int .u64 (getF f x)) ∧ Below w.heap.size w w' := by
  unfold getF
  cases hr : rightF f
  · exact refGet_no _ _ _ _ hr
  · have := rightF_t hr
    exact refGet_yes _ _ _ _ this.1 this.2.1 this.2.2.1 this.2.2.2 x0 x1

theorem info_u64 : (Try.prog.info? 24).map (fun i => (i.zero, i.size, i.bytes)) = some (some (.int .u64 0), 1, 8) := by kernel_rfl
theorem elU : Elem Try.prog 44 24 1 8 := elem_mk Try.underlying44 info_u64 rfl (by omega)

set_option maxRecDepth 100000 in
set_option maxHeartbeats 4000000 in
theorem split_any (A : Option Addr) (l : List Fl) (x : Int) (c : Nat) (w : World) (hs : Sl eF 2 w A l) (h1 : l.length ≤ 40) (x0 : 0 ≤ x) (x1 : x < 18446744073709551616) :
    Calls Try.prog 22 #[.slice A l.length c, .int .u64 x] w (RetSl eU 1 24 (l.map (getF · x)) w) := by
  obtain ⟨i0, hi0, hz0, hz1, hz2⟩ := info_parts info_u64
  go_enter Try.func22, Try.ntmps22
  go_wp2_with (at_make; refine wpList_make_own _ rfl _ _ 44 rfl w.heap.size 24 i0 _ 1 Try.underlying44 hi0 hz0 hz1 _ _ _ l.length rfl rfl rfl (by rw [hz2]; omega) (by simp only [maxLen]; omega) (Nat.le_refl _) ?_; intro w4 ownW hg4)
  have hB4 : Below w.heap.size w w4 := (Below.refl _ _).grown hg4 (Nat.le_refl _) (fun k hk => by cases hk)
  clear hg4
  go_loopw [5, 13] (fun v i wr => ∃ (k : Nat) (O : Option Addr) (d : Nat), k ≤ l.length ∧ i = .int .i64 k ∧ v = .slice O k d ∧ Own eU 1 wr w.heap.size 24 O d ((l.take k).map (getF · x)) ∧ Below w.heap.size w wr) (fun _ i _ => l.length - (intOf i).toNat)
  case atStart => exact ⟨0, _, _, Nat.zero_le _, rfl, rfl, ownW, hB4⟩
  case round =>
    clear ownW hB4
    obtain ⟨k, O, d, hk, rfl, rfl, own, hB⟩ := hrel
    by_cases hlt : k < l.length
    · obtain ⟨b, off, rfl, c0, c1⟩ := (hs.keep hB).fl_at hlt
      have HR : Hid (((l.take k).map (getF · x)).length = k) := by simp [Hid]; omega
      have hG := Lib.hid (fun W => get_at l[k] x W x0 x1)
      have HS : Hid ((l.take (k + 1)).map (getF · x) = (l.take k).map (getF · x) ++ [getF l[k] x]) := by unfold Hid; rw [List.take_succ_eq_append_getElem hlt, List.map_append]; rfl
      generalize getF l[k] x = y at *
      go_wp2_with (first | (go_at_call 9; (with_reducible refine (hG.out _).mono ?_); rintro e w5 ⟨rfl, hb⟩; replace own := (own.alloc _).keep hb; replace hB := bstep (hB.alloc hB.size _) (Nat.le_refl _) hb; clear hb; have hBs := hB.size) | (at_builtin; refine wpList_append_sl _ rfl _ _ rfl elU eU_ok (own.alloc _) (n := k) HR.out rfl (m := 1) rfl (ys := [y]) rfl (Sl.new eU_ok w5 _ _ rfl _) (by simp only [maxLen]; omega) (by omega) (by simp; omega) _ rfl (k + 1) rfl ?_; intro A1 e1 w1 own1 hg1 at1))
      go_roundw
      case rel => exact ⟨k + 1, A1, e1, by omega, by go_num, rfl, by rw [HS.out]; exact own1, (hB.alloc hB.size _).grown hg1 (by simp; omega) (fun q hq => (own.lt q hq).1)⟩
      case measure => simp [intOf]; omega
    · obtain rfl : k = l.length := by omega
      go_wp2
      go_ret
      exact ⟨O, d, by simp, by simpa using own, hB⟩
end Go.Proofs.Ytcenphlgclmjnaa
