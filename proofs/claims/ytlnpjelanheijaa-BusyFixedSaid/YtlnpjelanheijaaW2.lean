/- Walks: the document's numbers, each one tried. -/
import Derived.Test.YtlnpjelanheijaaW1
namespace Go.Proofs.Ytlnpjelanheijaa
open Go.RowKit

set_option maxRecDepth 100000 in
set_option maxHeartbeats 4000000 in
theorem qLength_yes (A : Option Addr) (l : List Tk) (c : Nat) (most : Int) (w : World) (hs : Sl eT 3 w A l) (h : allT l = true) (h0 : 0 ≤ most) (h1 : most ≤ 1048576) :
    Calls Try.prog 13 #[.slice A l.length c, .int .i64 most] w fun e w' => e = .returned (.int .i64 (fixV 0 l most : Nat)) ∧ w = w' := by
  have H := Lib.hid h
  clear h
  go_enter Try.func13, Try.ntmps13
  go_wp2
  go_loop [5] (fun v => ∃ n : Nat, 1 ≤ n ∧ n ≤ 1048577 ∧ v = .int .i64 n ∧ Hid (∀ m : Nat, m < n → fixP 0 l m = false)) (fun v => most.toNat + 1 - (intOf v).toNat)
  case atStart => exact ⟨1, by omega, by omega, rfl, fun m hm => by obtain rfl : m = 0 := by omega
                                                                    rfl⟩
  case round =>
    obtain ⟨n, hn1, hn2, rfl, HM⟩ := hrel
    by_cases hle : (n : Int) ≤ most
    · have HR := Lib.hid (qRequest_yes A l c n w hs H.out (by omega) (by omega))
      have HF : Hid (fixP 0 l n = decide (reqL l (n : Int) = n)) := by unfold Hid fixP; rw [decide_eq_true hn1, Bool.true_and, Int.zero_add]
      have HH := Lib.hid (fun he => fixV_hit (cost := 0) (l := l) (most := most) hle hn1 he HM.out)
      have HM2 : Hid (fixP 0 l n = false → ∀ m : Nat, m < n + 1 → fixP 0 l m = false) := fun hp m hm => by
        by_cases he : m = n
        · subst he; exact hp
        · exact HM.out m (by omega)
      clear HM
      generalize fixP 0 l n = p at *
      generalize reqL l (n : Int) = q at *
      cases he : (q == (n : Int))
      · have hne : Hid (p = false) := by unfold Hid; rw [HF.out]; exact decide_eq_false (by simpa using he)
        go_wp2_with (go_at_call 25; (with_reducible refine HR.out.mono ?_); rintro e w2 ⟨rfl, rfl⟩)
        go_round
        case rel => exact ⟨n + 1, by omega, by omega, by go_num, HM2.out hne.out⟩
        case measure => simp [intOf]; omega
      · have he' : Hid (q = n) := by simpa [Hid] using he
        go_wp2_with (go_at_call 25; (with_reducible refine HR.out.mono ?_); rintro e w2 ⟨rfl, rfl⟩)
        go_ret
        have hfv := HH.out (by rw [Int.zero_add]; exact he'.out)
        exact ⟨by rw [hfv]; rfl, rfl⟩
    · go_wp2
      go_ret
      have hfv : fixV 0 l most = 0 := fixV_none (fun m hm => HM.out m (by omega))
      exact ⟨by rw [hfv]; rfl, rfl⟩

set_option maxRecDepth 100000 in
set_option maxHeartbeats 4000000 in
theorem qBad_yes (A : Option Addr) (l : List Tk) (c : Nat) (u : Nat) (w : World) (hs : Sl eT 3 w A l) (h : allT l = true) (h1 : u ≤ 1048576) :
    Calls Try.prog 14 #[.slice A l.length c, .int .i64 u] w fun e w' => e = .returned (.int .i64 (badV l u : Nat)) ∧ w = w' := by
  have H := Lib.hid h
  have hok := Lib.hid (okN_t h (show (0 : Int) ≤ (u : Int) by omega) (by omega))
  clear h
  go_enter Try.func14, Try.ntmps14
  go_wp2
  go_loop [5] (fun v => ∃ n : Nat, 1 ≤ n ∧ n ≤ u + 1 ∧ v = .int .i64 n ∧ Hid (∀ m : Nat, m < n → badP l (m : Int) = false)) (fun v => u + 1 - (intOf v).toNat)
  case atStart => exact ⟨1, by omega, by omega, rfl, fun m hm => by obtain rfl : m = 0 := by omega
                                                                    exact decide_eq_false (by rw [show ((0 : Nat) : Int) = 0 from rfl, demL_zero (allT_mem H.out)]; omega)⟩
  case round =>
    obtain ⟨n, hn1, hn2, rfl, HM⟩ := hrel
    by_cases hle : (n : Int) ≤ u
    · have HR := Lib.hid (qDemand_yes A l c n w hs H.out (by omega) (by omega))
      have HF : Hid (badP l (n : Int) = decide ((n : Int) < demL l (n : Int))) := rfl
      have HH := Lib.hid (fun he => bad_hit (l := l) hok.out (show n ≤ u by omega) he HM.out)
      have HM2 : Hid (badP l (n : Int) = false → ∀ m : Nat, m < n + 1 → badP l (m : Int) = false) := fun hp m hm => by
        by_cases he : m = n
        · subst he; exact hp
        · exact HM.out m (by omega)
      clear HM
      generalize badP l (n : Int) = p at *
      generalize demL l (n : Int) = q at *
      by_cases he : (n : Int) < q
      · have he' : Hid (p = true) := by unfold Hid; rw [HF.out]; exact decide_eq_true he
        go_wp2_with (go_at_call 26; (with_reducible refine HR.out.mono ?_); rintro e w2 ⟨rfl, rfl⟩)
        go_ret
        have hfv := HH.out he'.out
        exact ⟨by rw [hfv]; rfl, rfl⟩
      · have hne : Hid (p = false) := by unfold Hid; rw [HF.out]; exact decide_eq_false he
        go_wp2_with (go_at_call 26; (with_reducible refine HR.out.mono ?_); rintro e w2 ⟨rfl, rfl⟩)
        go_round
        case rel => exact ⟨n + 1, by omega, by omega, by go_num, HM2.out hne.out⟩
        case measure => simp [intOf]; omega
    · obtain rfl : n = u + 1 := by omega
      go_wp2
      go_ret
      have hfv : badV l u = 0 := bad_none hok.out HM.out
      exact ⟨by rw [hfv]; rfl, rfl⟩

set_option maxRecDepth 100000 in
set_option maxHeartbeats 4000000 in
theorem qResponse_yes (A : Option Addr) (l : List Tk) (c : Nat) (t : Tk) (most : Int) (w : World) (hs : Sl eT 3 w A l) (h : allT l = true) (hc : rightT t = true) (h0 : 0 ≤ most) (h1 : most ≤ 1048576) :
    Calls Try.prog 16 #[.slice A l.length c, .agg #[.int .i64 t.cost, .int .i64 t.period, .int .i64 t.dead], .int .i64 most] w fun e w' => e = .returned (.int .i64 (fixV t.cost l most : Nat)) ∧ Below w.heap.size w w' := by
  have H := Lib.hid h
  have hr := rightT_t hc
  have hB := below1 w (Obj.cells #[.int .i64 t.cost, .int .i64 t.period, .int .i64 t.dead] 24)
  have bk := Blk.new w 24 #[.int .i64 t.cost, .int .i64 t.period, .int .i64 t.dead]
  have hs1 := hs.keep hB
  clear h hc
  go_enter Try.func16, Try.ntmps16
  go_wp2_with fail
  generalize w.alloc (Obj.cells #[.int .i64 t.cost, .int .i64 t.period, .int .i64 t.dead] 24) = w1 at *
  have c0 := bk.cell 0 (.int .i64 t.cost) rfl
  go_loopw [7] (fun v wr => ∃ n : Nat, 1 ≤ n ∧ n ≤ 1048577 ∧ v = .int .i64 n ∧ Hid (∀ m : Nat, m < n → fixP t.cost l m = false) ∧ Below w1.heap.size w1 wr) (fun v _ => most.toNat + 1 - (intOf v).toNat)
  case atStart => exact ⟨1, by omega, by omega, rfl, fun m hm => by obtain rfl : m = 0 := by omega
                                                                    rfl, Below.refl _ _⟩
  case round =>
    obtain ⟨n, hn1, hn2, rfl, HM, hb1⟩ := hrel
    by_cases hle : (n : Int) ≤ most
    · have hrq := reqL_all H.out (n := (n : Int)) (by omega) (by omega)
      have HR := Lib.hid (fun W (hW : Sl eT 3 W A l) => qRequest_yes A l c n W hW H.out (by omega) (by omega))
      have HF : Hid (fixP t.cost l n = decide (t.cost + reqL l (n : Int) = n)) := by unfold Hid fixP; rw [decide_eq_true hn1, Bool.true_and]
      have HH := Lib.hid (fun he => fixV_hit (cost := t.cost) (l := l) (most := most) hle hn1 he HM.out)
      have HM2 : Hid (fixP t.cost l n = false → ∀ m : Nat, m < n + 1 → fixP t.cost l m = false) := fun hp m hm => by
        by_cases he : m = n
        · subst he; exact hp
        · exact HM.out m (by omega)
      clear HM
      generalize fixP t.cost l n = p at *
      generalize reqL l (n : Int) = q at *
      have hwr : IntKind.i64.wrap (t.cost + q) = t.cost + q := IntWalk.i64_in _ (by omega)
      have HRq : Hid (∀ m : Aft wr, Calls Try.prog 25 #[.slice A l.length c, .int .i64 n] m.w fun e w' => e = .returned (.int .i64 q) ∧ m.w = w') := fun m => HR.out _ ((hs1.keep hb1).keep m.ok)
      have d0 := kcell hb1 c0
      cases he : (t.cost + q == (n : Int))
      · have hne : Hid (p = false) := by unfold Hid; rw [HF.out]; exact decide_eq_false (by simpa using he)
        go_wp2_with fail
        (have aft_d0 := Aft.cell d0; refine wp_region_aft (by kernel_rfl) (by kernel_rfl) ?_; (repeat (go_big_quiet_step ((go_at_call 25; with_reducible exact aft_same (HRq.out _))))); refine wpQuiet_nil ?_; clear aft_d0; intro w6 hw2_; have hb := Aft.below hw2_; clear hw2_)
        replace hb1 := bstep hb1 (Nat.le_refl _) hb
        go_wp2_with fail
        go_roundw
        case rel => exact ⟨n + 1, by omega, by omega, by go_num, HM2.out hne.out, hb1⟩
        case measure => simp [intOf]; omega
      · have he' : Hid (t.cost + q = n) := by simpa [Hid] using he
        go_wp2_with fail
        (have aft_d0 := Aft.cell d0; refine wp_region_aft (by kernel_rfl) (by kernel_rfl) ?_; (repeat (go_big_quiet_step ((go_at_call 25; with_reducible exact aft_same (HRq.out _))))); refine wpQuiet_nil ?_; clear aft_d0; intro w6 hw2_; have hb := Aft.below hw2_; clear hw2_)
        replace hb1 := bstep hb1 (Nat.le_refl _) hb
        go_wp2_with fail
        go_ret
        have hfv := HH.out he'.out
        exact ⟨by rw [hfv]; rfl, bstep hB (Nat.le_refl _) hb1⟩
    · go_wp2
      go_ret
      have hfv : fixV t.cost l most = 0 := fixV_none (fun m hm => HM.out m (by omega))
      exact ⟨by rw [hfv]; rfl, bstep hB (Nat.le_refl _) hb1⟩

set_option maxRecDepth 100000 in
set_option maxHeartbeats 4000000 in
theorem qFixed_yes (A : Option Addr) (l : List Tk) (c : Nat) (w : World) (hs : Sl eT 3 w A l) (h : allT l = true) (hc : l.length ≤ c) :
    Calls Try.prog 17 #[.slice A l.length c] w fun e w' => e = .returned (.bool (fixedB l)) ∧ Below w.heap.size w w' := by
  have H := Lib.hid h
  have hs8 := allT_len h
  clear h
  go_enter Try.func17, Try.ntmps17
  go_wp2
  go_loopw [3] (fun i wr => ∃ k : Nat, k ≤ l.length ∧ i = .int .i64 k ∧ Hid (∀ i (hi : i < l.length), i < k → 0 < fixV l[i].cost (l.take i) l[i].dead) ∧ Below w.heap.size w wr) (fun i _ => l.length - (intOf i).toNat)
  case atStart => exact ⟨0, Nat.zero_le _, rfl, fun i _ hi => absurd hi (by omega), Below.refl _ _⟩
  case round =>
    obtain ⟨k, hk, rfl, HM, hB⟩ := hrel
    by_cases hlt : k < l.length
    · obtain ⟨b, off, rfl, c0, c1, c2⟩ := (hs.keep hB).tk_at hlt
      have k0 : (0 : Int) ≤ (k : Int) := by omega
      have k1 : (k : Int) < (l.length : Int) := by omega
      have k2 : (k : Int) ≤ (c : Int) := by omega
      have hr := allT_at H.out hlt
      have hkl : (l.take k).length = k := by rw [List.length_take]; omega
      have hat : allT (l.take k) = true := all_yes (by omega) (fun i hi => by rw [List.getElem_take]; exact allT_mem H.out _ (List.getElem_mem _))
      have hrt := allT_mem H.out _ (List.getElem_mem hlt)
      have HR : Hid (∀ W, Sl eT 3 W (some ⟨b, off, none⟩) (l.take k) → Calls Try.prog 16 #[.slice (some ⟨b, off, none⟩) k c, .agg #[.int .i64 l[k].cost, .int .i64 l[k].period, .int .i64 l[k].dead], .int .i64 l[k].dead] W fun e w' => e = .returned (.int .i64 (fixV l[k].cost (l.take k) l[k].dead : Nat)) ∧ Below W.heap.size W w') := fun W hW => by
        have := qResponse_yes (some ⟨b, off, none⟩) (l.take k) c l[k] l[k].dead W hW hat hrt (by omega) (by omega)
        rw [hkl] at this
        exact this
      have HN := Lib.hid (fixed_no hlt)
      have HM2 : Hid (0 < fixV l[k].cost (l.take k) l[k].dead → ∀ i (hi : i < l.length), i < k + 1 → 0 < fixV l[i].cost (l.take i) l[i].dead) := fun hp i hi hik => by
        by_cases he : i = k
        · subst he; exact hp
        · exact HM.out i hi (by omega)
      clear HM hkl hat hrt
      have hst := (hs.keep hB).take k
      generalize fixV l[k].cost (l.take k) l[k].dead = q at *
      generalize l[k] = t at *
      have HR2 : Hid (∀ m : Aft wr, Calls Try.prog 16 #[.slice (some ⟨b, off, none⟩) k c, .agg #[.int .i64 t.cost, .int .i64 t.period, .int .i64 t.dead], .int .i64 t.dead] m.w fun e w' => e = .returned (.int .i64 (q : Int)) ∧ Below m.w.heap.size m.w w') := fun m => HR.out m.w (hst.keep m.ok)
      clear HR
      go_wp2_with fail
      (have aft_c0 := Aft.cell c0; have aft_c1 := Aft.cell c1; have aft_c2 := Aft.cell c2; refine wp_region_aft (by kernel_rfl) (by kernel_rfl) ?_; (repeat (go_big_quiet_step ((go_at_call 16; with_reducible exact aft_call (HR2.out _))))); refine wpQuiet_nil ?_; clear aft_c0 aft_c1 aft_c2; intro w6 hw2_; have hb := Aft.below hw2_; clear hw2_)
      replace hB := bstep hB (Nat.le_refl _) hb
      clear hb
      by_cases hq : q = 0
      · subst hq
        go_wp2_with fail
        go_ret
        exact ⟨by rw [HN.out (by trivial)]; rfl, hB⟩
      · have hq2 : ((q : Int) == 0) = false := by simp; omega
        go_wp2_with fail
        go_roundw
        case rel => exact ⟨k + 1, by omega, by go_num, HM2.out (by omega), hB⟩
        case measure => simp [intOf]; omega
    · obtain rfl : k = l.length := by omega
      go_wp2
      go_ret
      exact ⟨by rw [fixed_yes H.out (fun i hi => HM.out i hi hi)]; rfl, hB⟩

/-! the statements' own small functions -/
def fewB (n : Nat) (k : Int) : Bool := decide (n ≤ 12 ∧ (k ≤ 600 ∨ 1048576 < k))
theorem few_any (A : Option Addr) (n c : Nat) (k : Int) (w : World) : Calls Try.prog 7 #[.slice A n c, .int .i64 k] w fun e w' => e = .returned (.bool (fewB n k)) ∧ w = w' := by
  go_enter Try.func7, Try.ntmps7
  go_wp2
  all_goals go_ret
  all_goals refine ⟨ret_bool ?_, rfl⟩
  all_goals unfold fewB
  all_goals first | (simp; done) | (simp; omega) | (rw [decide_eq_decide]; omega)

def exL : List Tk := [⟨1, 4, 4⟩, ⟨2, 6, 6⟩]
set_option maxRecDepth 100000 in
set_option maxHeartbeats 2000000 in
theorem awake_any (w : World) : Calls Try.prog 8 #[] w fun e w' => e = .returned (.bool true) ∧ Below w.heap.size w w' := by
  have hB := below1 w (Obj.cells #[.int .i64 1, .int .i64 4, .int .i64 4, .int .i64 2, .int .i64 6, .int .i64 6] 24)
  have bk := Blk.new w 24 #[.int .i64 1, .int .i64 4, .int .i64 4, .int .i64 2, .int .i64 6, .int .i64 6]
  have hs : Sl eT 3 (w.alloc (Obj.cells #[.int .i64 1, .int .i64 4, .int .i64 4, .int .i64 2, .int .i64 6, .int .i64 6] 24)) (some ⟨w.heap.size, 0, none⟩) exL := Sl.lit eT_ok w exL _ rfl _
  have e1 : lenV exL 20 = 3 := by decide +kernel
  have e2 : respV (exL.take 1) ⟨2, 6, 6⟩ 6 = 3 := by decide +kernel
  have e3 : fixedB exL = true := by decide +kernel
  go_enter Try.func8, Try.ntmps8
  go_wp2_with fail
  generalize w.alloc (Obj.cells #[.int .i64 1, .int .i64 4, .int .i64 4, .int .i64 2, .int .i64 6, .int .i64 6] 24) = w1 at *
  have HL : Hid (∀ W, Sl eT 3 W (some ⟨w.heap.size, 0, none⟩) exL → Calls Try.prog 9 #[.slice (some ⟨w.heap.size, 0, none⟩) 2 2, .int .i64 20] W fun e w' => e = .returned (.tuple #[.int .i64 3, .bool true]) ∧ Below W.heap.size W w') := fun W hW => by
    have := length_any (some ⟨w.heap.size, 0, none⟩) exL 2 20 W hW (by decide) (by omega)
    rw [e1] at this
    exact this
  have HR : Hid (∀ W, Sl eT 3 W (some ⟨w.heap.size, 0, none⟩) exL → Calls Try.prog 11 #[.slice (some ⟨w.heap.size, 0, none⟩) 1 2, .agg #[.int .i64 2, .int .i64 6, .int .i64 6], .int .i64 6] W fun e w' => e = .returned (.tuple #[.int .i64 3, .bool true]) ∧ Below W.heap.size W w') := fun W hW => by
    have := response_any (some ⟨w.heap.size, 0, none⟩) (exL.take 1) 2 ⟨2, 6, 6⟩ 6 W (hW.take 1) (by decide) (by omega)
    rw [e2] at this
    exact this
  have HF : Hid (∀ W, Sl eT 3 W (some ⟨w.heap.size, 0, none⟩) exL → Calls Try.prog 18 #[.slice (some ⟨w.heap.size, 0, none⟩) 2 2] W fun e w' => e = .returned (.bool true) ∧ Below W.heap.size W w') := fun W hW => by
    have := fixed_any (some ⟨w.heap.size, 0, none⟩) exL 2 W hW (by decide) (by decide)
    rw [e3] at this
    exact this
  clear e1 e2 e3
  refine (HL.out _ hs).mono ?_
  rintro e w2 ⟨rfl, hb⟩
  replace hB := bstep hB (Nat.le_refl _) hb
  replace hs := hs.keep hb
  replace bk := bk.keep hb
  clear hb
  have c3 := bk.cell 3 (.int .i64 2) rfl
  have c4 := bk.cell 4 (.int .i64 6) rfl
  have c5 := bk.cell 5 (.int .i64 6) rfl
  have HR2 : Hid (∀ m : Aft w2, Calls Try.prog 11 #[.slice (some ⟨w.heap.size, 0, none⟩) 1 2, .agg #[.int .i64 2, .int .i64 6, .int .i64 6], .int .i64 6] m.w fun e w' => e = .returned (.tuple #[.int .i64 3, .bool true]) ∧ Below m.w.heap.size m.w w') := fun m => HR.out m.w (hs.keep m.ok)
  go_wp2_with fail
  (have aft_c3 := Aft.cell c3; have aft_c4 := Aft.cell c4; have aft_c5 := Aft.cell c5; refine wp_region_aft (by kernel_rfl) (by kernel_rfl) ?_; (repeat (go_big_quiet_step ((go_at_call 11; with_reducible exact aft_call (HR2.out _))))); refine wpQuiet_nil ?_; clear aft_c3 aft_c4 aft_c5; intro w3 hw2_; have hb := Aft.below hw2_; clear hw2_)
  replace hB := bstep hB (Nat.le_refl _) hb
  replace hs := hs.keep hb
  clear hb
  go_wp2_with fail
  refine (HF.out _ hs).mono ?_
  rintro e w4 ⟨rfl, hb⟩
  go_wp2_with fail
  go_ret
  exact ⟨rfl, bstep hB (Nat.le_refl _) hb⟩
end Go.Proofs.Ytlnpjelanheijaa
