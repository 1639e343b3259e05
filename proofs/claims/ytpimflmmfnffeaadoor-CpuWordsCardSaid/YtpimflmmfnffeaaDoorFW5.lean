/- Walks: Join and Split, and the document's Join. -/
import Derived.Test.YtpimflmmfnffeaaDoorFW4
namespace Go.Proofs.YtpimflmmfnffeaaDoor
open Go.RowKit

theorem and_ne {x y : Nat} (hx : x < 2 ^ 64) (hy : y < 2 ^ 64) : (bits BinOp.and IntKind.u64 (x : Int) (y : Int) != 0) = !decide (x &&& y = 0) := by
  rw [← and_test hx hy]; rfl
theorem or_val {x y : Nat} (hx : x < 2 ^ 64) (hy : y < 2 ^ 64) : bits BinOp.or IntKind.u64 (x : Int) (y : Int) = ((x ||| y : Nat) : Int) := u64_or_nat _ _ (by omega) (by omega)

/-- the word of numbers in fields, and an error -/
def joinV (l : List Fl) (n : List Int) : Value := if joinB l n l.length then .tuple #[.int .u64 (wordN l n l.length : Nat), .int .i64 0] else .tuple #[.int .u64 0, .int .i64 1]
def joinW (l : List Fl) (n : List Int) : Value := if joinB l n l.length then .tuple #[.int .u64 (wordN l n l.length : Nat), .bool true] else .tuple #[.int .u64 0, .bool false]
theorem join_no {l : List Fl} {n : List Int} {k : Nat} (hk : k < l.length) (h2 : k < n.length) (h : bad (l.take k) l[k] n[k] = true) : joinB l n l.length = false := by
  cases hj : joinB l n l.length
  · rfl
  · have := joinB_at hj hk
    rw [badAt_eq l n k hk h2, h] at this
    cases this
theorem join_yes {l : List Fl} {n : List Int} {k : Nat} (hk : k < l.length) (h2 : k < n.length) (hj : joinB l n k = true) (h : bad (l.take k) l[k] n[k] = false) : joinB l n (k + 1) = true := by
  rw [joinB, hj, badAt_eq l n k hk h2, h]; rfl
theorem bad_right {pre : List Fl} {f : Fl} {x : Int} (h : rightF f = false) : bad pre f x = true := by unfold bad; rw [h]; rfl
theorem bad_big {pre : List Fl} {f : Fl} {x : Int} (h : mostI f.size < x) : bad pre f x = true := by unfold bad; simp [h]
theorem bad_any {pre : List Fl} {f : Fl} {x : Int} (h : pre.any (fun g => !apartB f g) = true) : bad pre f x = true := by unfold bad; rw [h]; simp
theorem bad_none {pre : List Fl} {f : Fl} {x : Int} (h1 : rightF f = true) (h2 : ¬ mostI f.size < x) (h : pre.any (fun g => !apartB f g) = false) : bad pre f x = false := by unfold bad; rw [h, h1]; simp; omega

set_option maxHeartbeats 1000000 in
theorem join_len (A B : Option Addr) (l : List Fl) (n : List Int) (c d : Nat) (w : World) (h : ¬ l.length = n.length) (h1 : l.length ≤ 40) (h2 : n.length ≤ 40) :
    Calls Tryd.prog 14 #[.slice A l.length c, .slice B n.length d] w fun e w' => e = .returned (.tuple #[.int .u64 0, .int .i64 1]) ∧ Below w.heap.size w w' := by
  have hne : ((l.length : Int) != (n.length : Int)) = true := by simp; omega
  go_enter Tryd.func14, Tryd.ntmps14
  go_wp2
  go_ret2
  exact ⟨rfl, Below.refl _ _⟩

set_option maxRecDepth 100000 in
set_option maxHeartbeats 4000000 in
theorem join_any (A B : Option Addr) (l : List Fl) (n : List Int) (c d : Nat) (w : World) (hs : Sl eF 2 w A l) (hn : Sl eU 1 w B n) (h : l.length = n.length) (h1 : l.length ≤ 40) (hn0 : ∀ x ∈ n, 0 ≤ x) :
    Calls Tryd.prog 14 #[.slice A l.length c, .slice B n.length d] w fun e w' => e = .returned (joinV l n) ∧ Below w.heap.size w w' := by
  have hne : ((l.length : Int) != (n.length : Int)) = false := by rw [h]; simp
  have HL := Lib.hid h
  have hl2 : l.length ≤ n.length := by omega
  have HN0 := Lib.hid hn0
  clear h hn0
  go_enter Tryd.func14, Tryd.ntmps14
  go_wp2
  go_loopw [6, 7, 19] (fun wd us i wr => ∃ (k : Nat) (x u : Nat), k ≤ l.length ∧ i = .int .i64 k ∧ wd = .int .u64 x ∧ us = .int .u64 u ∧ Hid (joinB l n k = true) ∧ Hid (x = wordN l n k) ∧ Hid (u = usedN l k) ∧ Below w.heap.size w wr) (fun _ _ i _ => l.length - (intOf i).toNat)
  case atStart => exact ⟨0, 0, 0, Nat.zero_le _, rfl, rfl, rfl, rfl, rfl, rfl, Below.refl _ _⟩
  case round =>
    obtain ⟨k, x, u, hk, rfl, rfl, rfl, HJ, HX, HU, hB⟩ := hrel
    by_cases hlt : k < l.length
    · have hlt2 : k < n.length := by omega
      obtain ⟨b, off, rfl, c0, c1⟩ := (hs.keep hB).fl_at hlt
      obtain ⟨b2, off2, rfl, c2⟩ := (hn.keep hB).u64_at hlt2
      have hx : x < 18446744073709551616 := by have := wordN_lt HN0.out HJ.out hk (by omega); rw [← HX.out] at this; exact this
      have hu : u < 18446744073709551616 := by have := usedN_lt HJ.out hk (by omega); rw [← HU.out] at this; exact this
      have hnk : 0 ≤ n[k] := HN0.out _ (List.getElem_mem _)
      have HJN := Lib.hid (join_no (l := l) (n := n) hlt hlt2)
      have HJY := Lib.hid (join_yes (l := l) (n := n) hlt hlt2 HJ.out)
      have HWS := Lib.hid (wordN_succ l n k hlt hlt2)
      have HUS := Lib.hid (usedN_succ l k hlt)
      have HUA := Lib.hid (fun hr : rightF l[k] = true => used_and l[k] hr HJ.out hk (by omega))
      have k0 : (0 : Int) ≤ (k : Int) := by omega
      have k1 : (k : Int) < (n.length : Int) := by omega
      generalize l[k] = f at *
      generalize n[k] = y at *
      go_wp2
      have d0 : (wr.alloc (Obj.cells #[.int .i64 f.at_, .int .i64 f.size] 64)).cell? ⟨wr.heap.size, 0, none⟩ = some (.int .i64 f.at_) := by simp
      have d1 : (wr.alloc (Obj.cells #[.int .i64 f.at_, .int .i64 f.size] 64)).cell? ⟨wr.heap.size, 1, none⟩ = some (.int .i64 f.size) := by simp
      replace c2 := kcell (below1 wr (Obj.cells #[.int .i64 f.at_, .int .i64 f.size] 64)) c2
      replace hB := hB.alloc hB.size (Obj.cells #[.int .i64 f.at_, .int .i64 f.size] 64)
      clear c0 c1
      generalize hgw : (wr.alloc (Obj.cells #[.int .i64 f.at_, .int .i64 f.size] 64)) = w5 at *
      clear hgw
      by_cases hr : rightF f = true
      · have hp := rightF_t hr
        obtain ⟨p1, p2, p3, p4⟩ := hp
        by_cases hbig : mostI f.size < y
        · have HF := Lib.hid (HJN.out (bad_big hbig))
          go_region_held3 (fun w' => Below w5.heap.size w5 w' ∧ w'.cell? ⟨wr.heap.size, 0, none⟩ = some (.int .i64 f.at_) ∧ w'.cell? ⟨wr.heap.size, 1, none⟩ = some (.int .i64 f.size) ∧ w'.cell? ⟨b2, off2 + k, none⟩ = some (.int .u64 y))
            (first | exact ⟨(Below.refl _ _).drew, d0, d1, c2⟩ | exact keep3 ‹_› hb)
            (first | (go_at_call 23; (with_reducible refine (put_big f.at_ f.size _ y _ p1 p2 p3 p4 hbig).mono ?_); rintro e w4 ⟨rfl, hb⟩))
          rename_i hH
          go_wp2
          go_ret2
          exact ⟨by unfold joinV; rw [HF.out]; rfl, bstep hB (Nat.le_refl _) hH.1⟩
        · have hle : y ≤ mostI f.size := by omega
          have hmk := maskN_lt hr
          have HA := Lib.hid (and_ne (show u < 2 ^ 64 from hu) hmk)
          have HO := Lib.hid (or_val (show u < 2 ^ 64 from hu) hmk)
          have HUB := Lib.hid (HUA.out hr)
          have hput := Lib.hid (fun W => put_yes f.at_ f.size x y W p1 p2 p3 p4 (by omega) (by omega) hnk hle)
          rw [Int.toNat_natCast] at hput
          have hmask := Lib.hid (fun W => mask_at f W hr)
          cases hap : (l.take k).any (fun g => !apartB f g)
          · have HY := Lib.hid (HJY.out (bad_none hr hbig hap))
            have ht : (bits BinOp.and IntKind.u64 (u : Int) ((maskN f : Nat) : Int) != 0) = false := by rw [HA.out, HU.out]; simp [HUB.out.2 hap]
            have HXN : Hid (Fld.putN f.at_.toNat f.size.toNat x y.toNat = wordN l n (k + 1)) := by unfold Hid; rw [HWS.out, HX.out]
            have HUN : Hid (u ||| maskN f = usedN l (k + 1)) := by unfold Hid; rw [HUS.out, HU.out]
            clear hap
            generalize maskN f = m at *
            generalize Fld.putN f.at_.toNat f.size.toNat x y.toNat = x2 at *
            go_region_held3 (fun w' => Below w5.heap.size w5 w' ∧ w'.cell? ⟨wr.heap.size, 0, none⟩ = some (.int .i64 f.at_) ∧ w'.cell? ⟨wr.heap.size, 1, none⟩ = some (.int .i64 f.size) ∧ w'.cell? ⟨b2, off2 + k, none⟩ = some (.int .u64 y))
              (first | exact ⟨(Below.refl _ _).drew, d0, d1, c2⟩ | exact keep3 ‹_› hb)
              (first | (go_at_call 23; (with_reducible refine (hput.out _).mono ?_); rintro e w4 ⟨rfl, hb⟩))
            rename_i hH
            have hB2 := bstep hB (Nat.le_refl _) hH.1
            have e0 := hH.2.1
            have e1 := hH.2.2.1
            clear hH d0 d1 c2 hb
            go_wp2_with (go_at_call 24; (with_reducible refine (hmask.out _).mono ?_); rintro e w6 ⟨rfl, hb⟩; replace e0 := kcell hb e0; replace e1 := kcell hb e1; replace hB2 := bstep hB2 (Nat.le_refl _) hb; clear hb)
            go_roundw
            case rel => exact ⟨k + 1, x2, u ||| m, by omega, by go_num, rfl, by rw [HO.out], HY.out, HXN.out, HUN.out, hB2⟩
            case measure => simp [intOf]; omega
          · have HF := Lib.hid (HJN.out (bad_any hap))
            have ht : (bits BinOp.and IntKind.u64 (u : Int) ((maskN f : Nat) : Int) != 0) = true := by
              rw [HA.out, HU.out]
              have : ¬ (usedN l k &&& maskN f = 0) := fun h0 => by have := HUB.out.1 h0; rw [hap] at this; cases this
              simp [this]
            clear hap
            generalize maskN f = m at *
            generalize Fld.putN f.at_.toNat f.size.toNat x y.toNat = x2 at *
            go_region_held3 (fun w' => Below w5.heap.size w5 w' ∧ w'.cell? ⟨wr.heap.size, 0, none⟩ = some (.int .i64 f.at_) ∧ w'.cell? ⟨wr.heap.size, 1, none⟩ = some (.int .i64 f.size) ∧ w'.cell? ⟨b2, off2 + k, none⟩ = some (.int .u64 y))
              (first | exact ⟨(Below.refl _ _).drew, d0, d1, c2⟩ | exact keep3 ‹_› hb)
              (first | (go_at_call 23; (with_reducible refine (hput.out _).mono ?_); rintro e w4 ⟨rfl, hb⟩))
            rename_i hH
            have hB2 := bstep hB (Nat.le_refl _) hH.1
            have e0 := hH.2.1
            have e1 := hH.2.2.1
            clear hH d0 d1 c2 hb
            go_wp2_with (go_at_call 24; (with_reducible refine (hmask.out _).mono ?_); rintro e w6 ⟨rfl, hb⟩; replace e0 := kcell hb e0; replace e1 := kcell hb e1; replace hB2 := bstep hB2 (Nat.le_refl _) hb; clear hb)
            go_ret2
            exact ⟨by unfold joinV; rw [HF.out]; rfl, hB2⟩
      · have hr' : rightF f = false := by simpa using hr
        have HF := Lib.hid (HJN.out (bad_right hr'))
        have hr2 : rightB f.at_ f.size = false := hr'
        clear hr
        go_region_held3 (fun w' => Below w5.heap.size w5 w' ∧ w'.cell? ⟨wr.heap.size, 0, none⟩ = some (.int .i64 f.at_) ∧ w'.cell? ⟨wr.heap.size, 1, none⟩ = some (.int .i64 f.size) ∧ w'.cell? ⟨b2, off2 + k, none⟩ = some (.int .u64 y))
          (first | exact ⟨(Below.refl _ _).drew, d0, d1, c2⟩ | exact keep3 ‹_› hb)
          (first | (go_at_call 23; (with_reducible refine (put_no f.at_ f.size _ y _ hr2).mono ?_); rintro e w4 ⟨rfl, hb⟩))
        rename_i hH
        go_wp2
        go_ret2
        exact ⟨by unfold joinV; rw [HF.out]; rfl, bstep hB (Nat.le_refl _) hH.1⟩
    · obtain rfl : k = l.length := by omega
      go_wp2
      go_ret2
      exact ⟨by unfold joinV; rw [HJ.out, HX.out]; rfl, hB⟩
end Go.Proofs.YtpimflmmfnffeaaDoor
