/- Walk: the statement FieldJoins. -/
import Derived.Test.YtcenphlgclmjnaaW6
import Derived.Test.YtcenphlgclmjnaaAft
namespace Go.Proofs.Ytcenphlgclmjnaa
open Go.RowKit

theorem info_f : (Try.prog.info? 27).map (fun i => (i.zero, i.size, i.bytes)) = some (some (.agg #[.int .i64 0, .int .i64 0]), 2, 16) := by kernel_rfl
theorem elF : Elem Try.prog 45 27 2 16 := elem_mk Try.underlying45 info_f rfl (by omega)
theorem Sl.fl_c {w : World} {b off : Nat} {xs : List Fl} {i : Nat} (h : Sl eF 2 w (some ⟨b, off, none⟩) xs) (hi : i < xs.length) :
    w.cell? ⟨b, off + i * 2, none⟩ = some (.int .i64 xs[i].at_) ∧ w.cell? ⟨b, off + i * 2 + 1, none⟩ = some (.int .i64 xs[i].size) := by
  obtain ⟨b', off', heq, h1, h2⟩ := h.fl_at hi
  injection heq with heq
  injection heq with q1 q2
  subst q1 q2
  exact ⟨h1, h2⟩
theorem Sl.fl_0 {w : World} {b off : Nat} {xs : List Fl} (h : Sl eF 2 w (some ⟨b, off, none⟩) xs) (hi : 0 < xs.length) :
    w.cell? ⟨b, off, none⟩ = some (.int .i64 xs[0].at_) ∧ w.cell? ⟨b, off + 1, none⟩ = some (.int .i64 xs[0].size) := by
  have := h.fl_c hi
  simpa using this
theorem Sl.u_c {w : World} {b off : Nat} {xs : List Int} {i : Nat} (h : Sl eU 1 w (some ⟨b, off, none⟩) xs) (hi : i < xs.length) : w.cell? ⟨b, off + i, none⟩ = some (.int .u64 xs[i]) := by
  obtain ⟨b', off', heq, h1⟩ := h.u64_at hi
  injection heq with heq
  injection heq with q1 q2
  subst q1 q2
  exact h1
theorem getF_lt (f : Fl) (x : Int) : 0 ≤ getF f x ∧ getF f x < 18446744073709551616 := by
  unfold getF
  cases hr : rightF f
  · simp
  · have h1 := rightF_t hr
    have : Fld.getN f.at_.toNat f.size.toNat x.toNat < 2 ^ f.size.toNat := by unfold Fld.getN; exact Nat.mod_lt _ (Nat.two_pow_pos _)
    have h2 : 2 ^ f.size.toNat ≤ 2 ^ 64 := Nat.pow_le_pow_right (by omega) (by omega)
    simp only [if_true]
    omega
theorem get_num {l : List Fl} {n : List Int} (h0 : ∀ x ∈ n, 0 ≤ x) (hj : joinB l n l.length = true) (h : l.length = n.length) (i : Nat) (hi : i < l.length) : getF l[i] ((wordN l n l.length : Nat) : Int) = n[i]'(by omega) := by
  have h1 := word_get h0 hj (Nat.le_refl _) (by omega) i hi
  have h2 := (joinB_right hj (Nat.le_refl _) (by omega) hi).1
  unfold getF
  rw [h2]
  simpa using h1

set_option maxHeartbeats 1000000 in
theorem joins_many (A B : Option Addr) (n m c d : Nat) (w : World) (h : 40 < n ∨ 40 < m) (hl : n ≤ 9223372036854775807) (hnl : m ≤ 9223372036854775807) :
    Calls Try.prog 5 #[.slice A n c, .slice B m d] w fun e w' => e = .returned (.bool true) ∧ Below w.heap.size w w' := by
  by_cases g1 : 40 < n
  · go_enter Try.func5, Try.ntmps5
    go_wp2_with (go_at_call 10; refine (awake_any _).mono ?_; rintro e w2 ⟨rfl, hb⟩)
    go_ret
    exact ⟨rfl, hb⟩
  · have g2 : 40 < m := by omega
    go_enter Try.func5, Try.ntmps5
    go_wp2_with (go_at_call 10; refine (awake_any _).mono ?_; rintro e w2 ⟨rfl, hb⟩)
    go_ret
    exact ⟨rfl, hb⟩

set_option maxRecDepth 100000 in
set_option maxHeartbeats 4000000 in
theorem joins_any (A B : Option Addr) (l : List Fl) (n : List Int) (c d : Nat) (w : World) (hs : Sl eF 2 w A l) (hn : Sl eU 1 w B n) (h1 : l.length ≤ 40) (h2 : n.length ≤ 40) (hn0 : ∀ x ∈ n, 0 ≤ x) :
    Calls Try.prog 5 #[.slice A l.length c, .slice B n.length d] w fun e w' => e = .returned (.bool true) ∧ Below w.heap.size w w' := by
  have HN0 := Lib.hid hn0
  clear hn0
  go_enter Try.func5, Try.ntmps5
  go_wp2
  go_loopw [5, 6] (fun v i wr => ∃ (k : Nat) (O : Option Addr) (q : Nat), k ≤ l.length ∧ i = .int .i64 k ∧ v = .slice O k q ∧ Own eF 2 wr w.heap.size 27 O q (l.take k) ∧ Below w.heap.size w wr) (fun _ i _ => l.length - (intOf i).toNat)
  case atStart => exact ⟨0, none, 0, Nat.zero_le _, rfl, rfl, Own.nil _ _ _, Below.refl _ _⟩
  case round =>
    obtain ⟨k, O, q, hk, rfl, rfl, own, hB⟩ := hrel
    by_cases hlt : k < l.length
    · obtain ⟨b, off, rfl, c0, c1⟩ := (hs.keep hB).fl_at hlt
      have HC : Hid (∀ W, Below w.heap.size w W → W.cell? ⟨b, off + k * 2, none⟩ = some (.int .i64 l[k].at_) ∧ W.cell? ⟨b, off + k * 2 + 1, none⟩ = some (.int .i64 l[k].size) ∧ W.cell? ⟨b, off, none⟩ = some (.int .i64 (l[0]'(by omega)).at_) ∧ W.cell? ⟨b, off + 1, none⟩ = some (.int .i64 (l[0]'(by omega)).size)) :=
        fun W h => ⟨((hs.keep h).fl_c hlt).1, ((hs.keep h).fl_c hlt).2, ((hs.keep h).fl_0 (by omega)).1, ((hs.keep h).fl_0 (by omega)).2⟩
      have HR : Hid ((l.take k).length = k) := by simp [Hid]; omega
      have HS := Lib.hid (List.take_succ_eq_append_getElem hlt)
      have hBs := hB.size
      have k0 : (0 : Int) ≤ (k : Int) := by omega
      have k1 : (k : Int) < (l.length : Int) := by omega
      have k2 : 0 < l.length := by omega
      generalize l[k] = f at *
      generalize l[0] = g at *
      go_wp2_with (first | (go_at_call 6; (with_reducible refine (to_any _ _ _).mono ?_); rintro e w5 ⟨rfl, hb⟩; replace own := own.keep hb; replace hB := bstep hB (Nat.le_refl _) hb; clear hb; replace hBs := hB.size) | (at_builtin; refine wpList_append_sl _ rfl _ _ rfl elF eF_ok (own.alloc _) (n := k) HR.out rfl (m := 1) rfl (ys := [f]) rfl (Sl.new eF_ok w5 _ _ rfl _) (by simp only [maxLen]; omega) (by omega) (by simp; omega) _ rfl (k + 1) rfl ?_; intro A1 e1 w1 own1 hg1 at1))
      have hB1 : Below w.heap.size w w1 := (hB.alloc hB.size _).grown hg1 (by simp; omega) (fun q hq => (own.lt q hq).1)
      obtain ⟨d0, d1, d2, d3⟩ := HC.out w1 hB1
      clear c0 c1 hg1 at1 own hB HC
      have hAP := Lib.hid (fun W => apart_any f g W)
      have hRP := Lib.hid (fun W => refApart_any f g W)
      generalize apartB f g = ab at *
      have ht : (ab != ab) = false := by simp
      go_region_held3 (fun w' => Below w1.heap.size w1 w' ∧ w'.cell? ⟨b, off + k * 2, none⟩ = some (.int .i64 f.at_) ∧ w'.cell? ⟨b, off + k * 2 + 1, none⟩ = some (.int .i64 f.size) ∧ w'.cell? ⟨b, off, none⟩ = some (.int .i64 g.at_) ∧ w'.cell? ⟨b, off + 1, none⟩ = some (.int .i64 g.size))
        (first | exact ⟨(Below.refl _ _).drew, d0, d1, d2, d3⟩ | exact keep4 ‹_› hb)
        (first | (go_at_call 6; (with_reducible refine (to_any _ _ _).mono ?_); rintro e w4 ⟨rfl, hb⟩) | (go_at_call 18; (with_reducible refine (hAP.out _).mono ?_); rintro e w4 ⟨rfl, hb⟩) | (go_at_call 19; (with_reducible refine (hRP.out _).mono ?_); rintro e w4 ⟨rfl, hb⟩))
      all_goals rename_i hH
      all_goals (have hB2 := bstep hB1 (Nat.le_refl _) hH.1; replace own1 := own1.keep hH.1; clear hH)
      all_goals go_wp2
      all_goals go_roundw
      all_goals first | (case rel => exact ⟨k + 1, A1, e1, by omega, by go_num, rfl, by rw [HS.out]; exact own1, hB2⟩) | skip
      all_goals first | (case measure => simp [intOf]; omega) | skip
    · obtain rfl : k = l.length := by omega
      rw [List.take_length] at own
      have hxs := own.sl eF_ok
      by_cases hne : l.length = n.length
      · have hne1 : ((l.length : Int) != (n.length : Int)) = false := by rw [hne]; simp
        have hq := Lib.hid hne
        have hJ := Lib.hid (fun W hx hy => join_any O B l n q d W hx hy hq.out h1 HN0.out)
        have hR := Lib.hid (fun W hx hy => refJoin_any A B l n c d W hx hy hq.out h1 HN0.out)
        clear hne
        have hSp := fun (x : Int) (x0 : 0 ≤ x) (x1 : x < 18446744073709551616) W h => split_any O l x q W h h1 x0 x1
        have HG := Lib.hid (fun hj => get_num (l := l) (n := n) HN0.out hj hq.out)
        unfold joinV at hJ
        unfold joinW at hR
        have hlq : l.length ≤ n.length := Nat.le_of_eq hq.out
        cases hj : joinB l n l.length
        · rw [hj] at hJ hR
          simp only [Bool.false_eq_true, if_false] at hJ hR
          have hSq := Lib.hid (hSp 0 (by omega) (by omega))
          clear hSp HG
          go_wp2_with (first | (go_at_call 20; (with_reducible refine (hJ.out _ hxs (hn.keep hB)).mono ?_); rintro e w5 ⟨rfl, hb⟩; replace hxs := hxs.keep hb; replace hB := bstep hB (Nat.le_refl _) hb; clear hb) | (go_at_call 21; (with_reducible refine (hR.out _ (hs.keep hB) (hn.keep hB)).mono ?_); rintro e w6 ⟨rfl, hb⟩; replace hxs := hxs.keep hb; replace hB := bstep hB (Nat.le_refl _) hb; clear hb) | (go_at_call 22; (with_reducible refine (hSq.out _ hxs).mono ?_); rintro e w7 ⟨P, r, rfl, own7, hb⟩; replace hB := bstep hB (Nat.le_refl _) hb; clear hb))
          have hys := own7.sl eU_ok
          have HML : Hid ((l.map (getF · (0 : Int))).length = l.length) := List.length_map _
          clear own7
          obtain ⟨w0, rfl⟩ : ∃ wo : World, wo = w7 := ⟨_, rfl⟩
          go_loopw [12] (fun i wr => ∃ k : Nat, k ≤ l.length ∧ i = .int .i64 k ∧ Below w0.heap.size w0 wr) (fun i _ => l.length - (intOf i).toNat)
          case atStart => exact ⟨0, Nat.zero_le _, rfl, Below.refl _ _⟩
          case round =>
            obtain ⟨k, hk, rfl, hb0⟩ := hrel
            have hBr := bstep hB (Nat.le_refl _) hb0
            by_cases hlt : k < l.length
            · obtain ⟨b, off, rfl, c0, c1⟩ := (hs.keep hBr).fl_at hlt
              obtain ⟨b2, off2, rfl, c2⟩ := (hys.keep hb0).u64_at (show k < (l.map (getF · (0 : Int))).length by rw [HML.out]; exact hlt)
              obtain ⟨b3, off3, rfl, c3⟩ := (hn.keep hBr).u64_at (show k < n.length by omega)
              rw [List.getElem_map] at c2
              have hG := Lib.hid (fun W => refGet_at l[k] (0 : Int) W (by omega) (by omega))
              have k0 : (0 : Int) ≤ (k : Int) := by omega
              have k1 : (k : Int) < (l.length : Int) := by omega
              have k2 : (k : Int) < (n.length : Int) := by omega
              generalize getF l[k] (0 : Int) = y at *
              generalize l[k] = f at *
              have ht : (y != y) = false := by simp
              go_wp2
              (have aft_c0 := Aft.cell c0; have aft_c1 := Aft.cell c1; have aft_c2 := Aft.cell c2; have aft_c3 := Aft.cell c3; refine wp_region_aft (by kernel_rfl) (by kernel_rfl) ?_; (repeat (go_big_quiet_step ((go_at_call 15; exact aft_call (hG.out _))))); refine wpQuiet_nil ?_; clear aft_c0 aft_c1 aft_c2 aft_c3; intro w4 hw2_; have hb4 := Aft.below hw2_; clear hw2_)
              replace hb0 := bstep hb0 (Nat.le_refl _) hb4
              go_wp2
              go_roundw
              case rel => exact ⟨k + 1, by omega, by go_num, hb0⟩
              case measure => simp [intOf]; omega
            · obtain rfl : k = l.length := by omega
              go_wp2_with (go_at_call 10; refine (awake_any _).mono ?_; rintro e w8 ⟨rfl, hb⟩)
              go_ret
              exact ⟨rfl, bstep hBr (Nat.le_refl _) hb⟩
        · have hX : wordN l n l.length < 18446744073709551616 := wordN_lt HN0.out hj (Nat.le_refl _) hlq
          replace HG := Lib.hid (HG.out hj)
          rw [hj] at hJ hR
          simp only [if_true] at hJ hR
          generalize wordN l n l.length = X at *
          have hSq := Lib.hid (hSp (X : Int) (by omega) (by omega))
          have hxx : ((X : Int) != (X : Int)) = false := by simp
          clear hSp
          go_wp2_with (first | (go_at_call 20; (with_reducible refine (hJ.out _ hxs (hn.keep hB)).mono ?_); rintro e w5 ⟨rfl, hb⟩; replace hxs := hxs.keep hb; replace hB := bstep hB (Nat.le_refl _) hb; clear hb) | (go_at_call 21; (with_reducible refine (hR.out _ (hs.keep hB) (hn.keep hB)).mono ?_); rintro e w6 ⟨rfl, hb⟩; replace hxs := hxs.keep hb; replace hB := bstep hB (Nat.le_refl _) hb; clear hb) | (go_at_call 22; (with_reducible refine (hSq.out _ hxs).mono ?_); rintro e w7 ⟨P, r, rfl, own7, hb⟩; replace hB := bstep hB (Nat.le_refl _) hb; clear hb))
          have hys := own7.sl eU_ok
          have HML : Hid ((l.map (getF · (X : Int))).length = l.length) := List.length_map _
          clear own7
          obtain ⟨w0, rfl⟩ : ∃ wo : World, wo = w7 := ⟨_, rfl⟩
          go_loopw [12] (fun i wr => ∃ k : Nat, k ≤ l.length ∧ i = .int .i64 k ∧ Below w0.heap.size w0 wr) (fun i _ => l.length - (intOf i).toNat)
          case atStart => exact ⟨0, Nat.zero_le _, rfl, Below.refl _ _⟩
          case round =>
            obtain ⟨k, hk, rfl, hb0⟩ := hrel
            have hBr := bstep hB (Nat.le_refl _) hb0
            by_cases hlt : k < l.length
            · obtain ⟨b, off, rfl, c0, c1⟩ := (hs.keep hBr).fl_at hlt
              obtain ⟨b2, off2, rfl, c2⟩ := (hys.keep hb0).u64_at (show k < (l.map (getF · (X : Int))).length by rw [HML.out]; exact hlt)
              obtain ⟨b3, off3, rfl, c3⟩ := (hn.keep hBr).u64_at (show k < n.length by omega)
              rw [List.getElem_map] at c2
              have hG := Lib.hid (fun W => refGet_at l[k] (X : Int) W (by omega) (by omega))
              have k0 : (0 : Int) ≤ (k : Int) := by omega
              have k1 : (k : Int) < (l.length : Int) := by omega
              have k2 : (k : Int) < (n.length : Int) := by omega
              rw [← HG.out k hlt] at c3
              generalize getF l[k] (X : Int) = y at *
              generalize l[k] = f at *
              have ht : (y != y) = false := by simp
              go_wp2
              (have aft_c0 := Aft.cell c0; have aft_c1 := Aft.cell c1; have aft_c2 := Aft.cell c2; have aft_c3 := Aft.cell c3; refine wp_region_aft (by kernel_rfl) (by kernel_rfl) ?_; (repeat (go_big_quiet_step ((go_at_call 15; exact aft_call (hG.out _))))); refine wpQuiet_nil ?_; clear aft_c0 aft_c1 aft_c2 aft_c3; intro w4 hw2_; have hb4 := Aft.below hw2_; clear hw2_)
              replace hb0 := bstep hb0 (Nat.le_refl _) hb4
              go_wp2
              go_roundw
              case rel => exact ⟨k + 1, by omega, by go_num, hb0⟩
              case measure => simp [intOf]; omega
            · obtain rfl : k = l.length := by omega
              go_wp2_with (go_at_call 10; refine (awake_any _).mono ?_; rintro e w8 ⟨rfl, hb⟩)
              go_ret
              exact ⟨rfl, bstep hBr (Nat.le_refl _) hb⟩
      · have hne1 : ((l.length : Int) != (n.length : Int)) = true := by simp; omega
        have hJ := Lib.hid (fun W => join_len O B l n q d W hne h1 h2)
        clear hne
        go_wp2_with (first | (go_at_call 20; (with_reducible refine (hJ.out _).mono ?_); rintro e w5 ⟨rfl, hb⟩; replace hB := bstep hB (Nat.le_refl _) hb; clear hb) | (go_at_call 10; refine (awake_any _).mono ?_; rintro e w6 ⟨rfl, hb⟩; replace hB := bstep hB (Nat.le_refl _) hb; clear hb))
        go_ret
        exact ⟨rfl, hB⟩
end Go.Proofs.Ytcenphlgclmjnaa
