/- Walks: what a set needs, and the first stretch that is too much, by the program and by the document. -/
import Derived.Test.YtojccjdldmjfgaaW1
namespace Go.Proofs.Ytojccjdldmjfgaa
open Go.RowKit

theorem fStretch_any (t : Int) (w : World) : Calls Try.prog 24 #[.int .i64 t] w fun e w' => e = .returned (.bool (strT t)) ∧ w = w' := by
  go_enter Try.func24, Try.ntmps24
  go_wp2
  all_goals go_ret
  all_goals refine ⟨ret_bool ?_, rfl⟩
  all_goals unfold strT
  all_goals first | (simp; done) | (simp; omega) | (rw [decide_eq_decide]; omega)

section
variable (A : Option Addr) (l : List Tk) (c : Nat) (S : Option Addr) (s : List Int) (d : Nat)

set_option maxHeartbeats 1000000 in
theorem fNeed_yes (n : Int) (w : World) (hs : Sl eT 3 w A l) (hz : Sl eI 1 w S s) (h : allT l = true) (hl : s.length ≤ l.length) (hk : secOk l s = true) (h0 : 0 ≤ n) (h1 : n ≤ 1048576) :
    Calls Try.prog 26 #[.slice A l.length c, .slice S s.length d, .int .i64 n] w fun e w' => e = .returned (.int .i64 (needV l s n)) ∧ Below w.heap.size w w' := by
  have hs8 := allT_len h
  have HD := Lib.hid (tDemand_yes A l c n w hs (by omega) h h0 h1)
  have HB := Lib.hid (fun W (hW : Sl eT 3 W A l) (hW2 : Sl eI 1 W S s) => fBlocked_yes A l c S s d n W hW hW2 h hl hk)
  have hd := demL_all h h0 h1
  have hb0 := blkTo_ge l s n s.length
  have hb1 := blkTo_le h hk hl n s.length
  unfold needV
  have HK := Lib.hid (fun W (hb : Below w.heap.size w W) => hs.keep hb)
  have HK2 := Lib.hid (fun W (hb : Below w.heap.size w W) => hz.keep hb)
  generalize demL l n = D at *
  generalize blkTo l s n s.length = B at *
  go_enter Try.func26, Try.ntmps26
  go_wp2_with (first | (go_at_call 35; (with_reducible refine HD.out.mono ?_); rintro e w2 ⟨rfl, hB⟩) | (go_at_call 15; (with_reducible refine (HB.out _ (HK.out _ hB) (HK2.out _ hB)).mono ?_); rintro e w3 ⟨rfl, hb⟩))
  go_ret
  exact ⟨rfl, bstep hB (Nat.le_refl _) hb⟩

set_option maxHeartbeats 1000000 in
theorem rNeeds_yes (n : Int) (w : World) (hs : Sl eT 3 w A l) (hz : Sl eI 1 w S s) (h : allT l = true) (hl : s.length ≤ l.length) (hk : secOk l s = true) (h0 : 0 ≤ n) (h1 : n ≤ 1048576) :
    Calls Try.prog 21 #[.slice A l.length c, .slice S s.length d, .int .i64 n] w fun e w' => e = .returned (.int .i64 (needV l s n)) ∧ w = w' := by
  have hs8 := allT_len h
  have HD := Lib.hid (qDemand_yes A l c n w hs h h0 h1)
  have HB := Lib.hid (rBlocked_yes A l c S s d n w hs hz h hl)
  have hd := demL_all h h0 h1
  have hb0 := blkTo_ge l s n s.length
  have hb1 := blkTo_le h hk hl n s.length
  unfold needV
  generalize demL l n = D at *
  generalize blkTo l s n s.length = B at *
  go_enter Try.func21, Try.ntmps21
  go_wp2_with (first | (go_at_call 32; (with_reducible refine HD.out.mono ?_); rintro e w2 ⟨rfl, rfl⟩) | (go_at_call 16; (with_reducible refine HB.out.mono ?_); rintro e w3 ⟨rfl, rfl⟩))
  go_ret
  exact ⟨rfl, rfl⟩

def firstT (o : Option Int) : Value := .tuple #[.int .i64 (o.getD 0), .bool o.isSome, .int .i64 0]

set_option maxRecDepth 100000 in
set_option maxHeartbeats 4000000 in
theorem fFirst_yes (b p : Int) (u : Nat) (w : World) (hs : Sl eT 3 w A l) (hm : l.length ≤ 9223372036854775807) (hz : Sl eI 1 w S s) (hmz : s.length ≤ 9223372036854775807) (h : RightF l s b p) (hu : u ≤ 1048576) :
    Calls Try.prog 9 #[.slice A l.length c, .slice S s.length d, .agg #[.int .i64 b, .int .i64 p], .int .i64 u] w fun e w' => e = .returned (firstT (firstV l s b p u)) ∧ Below w.heap.size w w' := by
  have hB := below1 w (Obj.cells #[.int .i64 b, .int .i64 p] 31)
  have bk := Blk.new w 31 #[.int .i64 b, .int .i64 p]
  have HR := Lib.hid (fun W hW hW2 => fRight_any A l c S s d b p W hW hm hW2 hmz)
  rw [rightF_mk h] at HR
  have hst : strT (u : Int) = true := decide_eq_true ⟨by omega, by omega⟩
  have HS := Lib.hid (fun W => fStretch_any (u : Int) W)
  rw [hst] at HS
  have HP := Lib.hid (fun W hW => tPoints_yes A l c u W hW hm h.all hu)
  have H := Lib.hid h
  clear h hst
  have HX := Lib.hid (pts_in (allT_mem H.out.all) hu)
  have HV : Hid (firstV l s b p u = (ptsTo l (u + 1)).find? (overP l s b p)) := rfl
  have hpl := pts_len l (u + 1)
  generalize ptsTo l (u + 1) = xs at *
  generalize firstV l s b p u = FV at *
  have hs1 := hs.keep hB
  have hz1 := hz.keep hB
  have c0 := bk.cell 0 (.int .i64 b) rfl
  have c1 := bk.cell 1 (.int .i64 p) rfl
  go_enter Try.func9, Try.ntmps9
  go_wp2_with fail
  generalize w.alloc (Obj.cells #[.int .i64 b, .int .i64 p] 31) = w1 at *
  refine (HR.out _ hs1 hz1).mono ?_
  rintro e w2 ⟨rfl, hb⟩
  replace hB := bstep hB (Nat.le_refl _) hb
  replace bk := bk.keep hb
  replace hs1 := hs1.keep hb
  replace hz1 := hz1.keep hb
  clear hb c0 c1
  go_wp2_with (go_at_call 24; (with_reducible refine (HS.out _).mono ?_); rintro e w2 ⟨rfl, rfl⟩)
  refine (HP.out _ hs1).mono ?_
  rintro e w3 ⟨O, od, rfl, own, hb⟩
  replace hB := bstep hB (Nat.le_refl _) hb
  replace bk := bk.keep hb
  replace hs1 := hs1.keep hb
  replace hz1 := hz1.keep hb
  clear hb
  have hsp := own.sl eI_ok
  clear own
  go_wp2_with fail
  go_loopw [27] (fun i wr => ∃ k : Nat, k ≤ xs.length ∧ i = .int .i64 k ∧ Hid (∀ i (hi : i < xs.length), i < k → overP l s b p xs[i] = false) ∧ Below w3.heap.size w3 wr) (fun i _ => xs.length - (intOf i).toNat)
  case atStart => exact ⟨0, Nat.zero_le _, rfl, fun i _ hi => absurd hi (by omega), Below.refl _ _⟩
  case round =>
    obtain ⟨k, hk, rfl, HM, hb⟩ := hrel
    by_cases hlt : k < xs.length
    · obtain ⟨b1, o1, rfl, e0⟩ := (hsp.keep hb).int_at hlt
      have k0 : (0 : Int) ≤ (k : Int) := by omega
      have k1 : (k : Int) < (xs.length : Int) := by omega
      have hx := HX.out _ (List.getElem_mem hlt)
      have bk2 := bk.keep hb
      have c0 := bk2.cell 0 (.int .i64 b) rfl
      have c1 := bk2.cell 1 (.int .i64 p) rfl
      have hsw := hs1.keep hb
      have hzw := hz1.keep hb
      have HN : Hid (∀ m : Aft wr, Calls Try.prog 26 #[.slice A l.length c, .slice S s.length d, .int .i64 xs[k]] m.w fun e w' => e = .returned (.int .i64 (needV l s xs[k])) ∧ Below m.w.heap.size m.w w') := fun m => fNeed_yes A l c S s d xs[k] m.w (hsw.keep m.ok) (hzw.keep m.ok) H.out.all H.out.len H.out.sec (by omega) hx.2
      have HL : Hid (∀ m : Aft wr, Calls Try.prog 27 #[.agg #[.int .i64 b, .int .i64 p], .int .i64 xs[k]] m.w fun e w' => e = .returned (.int .i64 (Sup.leastI b p xs[k])) ∧ Below m.w.heap.size m.w w') := fun m => Sup.least_yes b p xs[k] m.w H.out.res.1 H.out.res.2.1 H.out.res.2.2 (by omega) hx.2
      have HF := Lib.hid (fun hp => find_some_at (p := overP l s b p) hlt hp HM.out)
      have HM2 : Hid (overP l s b p xs[k] = false → ∀ i (hi : i < xs.length), i < k + 1 → overP l s b p xs[i] = false) := fun hp i hi hik => by
        by_cases he : i = k
        · subst he; exact hp
        · exact HM.out i hi (by omega)
      have HO : Hid (overP l s b p xs[k] = decide (Sup.leastI b p xs[k] < needV l s xs[k])) := rfl
      clear HM
      generalize overP l s b p xs[k] = q at *
      generalize Sup.leastI b p xs[k] = L at *
      generalize needV l s xs[k] = D at *
      generalize xs[k] = x at *
      go_wp2_with fail
      (have aft_c0 := Aft.cell c0; have aft_c1 := Aft.cell c1; refine wp_region_aft (by kernel_rfl) (by kernel_rfl) ?_; (repeat (go_big_quiet_step ((first | (go_at_call 26; with_reducible exact aft_call (HN.out _)) | (go_at_call 27; with_reducible exact aft_call (HL.out _)))))); refine wpQuiet_nil ?_; clear aft_c0 aft_c1; intro w6 hw2_; have hb6 := Aft.below hw2_; clear hw2_)
      replace hb := bstep hb (Nat.le_refl _) hb6
      by_cases hxd : L < D
      · have hq : q = true := by rw [HO.out]; exact decide_eq_true hxd
        go_wp2_with fail
        go_ret3
        refine ⟨?_, bstep hB (Nat.le_refl _) hb⟩
        rw [HV.out, HF.out hq]
        rfl
      · have hq : q = false := by rw [HO.out]; exact decide_eq_false hxd
        go_wp2_with fail
        go_roundw
        case rel => exact ⟨k + 1, by omega, by go_num, HM2.out hq, hb⟩
        case measure => simp [intOf]; omega
    · obtain rfl : k = xs.length := by omega
      go_wp2_with fail
      go_ret3
      refine ⟨?_, bstep hB (Nat.le_refl _) hb⟩
      rw [HV.out, find_none_at (fun i hi => HM.out i hi hi)]
      rfl

set_option maxHeartbeats 1000000 in
theorem fFirst_no (b p n : Int) (w : World) (hs : Sl eT 3 w A l) (hm : l.length ≤ 9223372036854775807) (hz : Sl eI 1 w S s) (hmz : s.length ≤ 9223372036854775807) (h : (rightF l s b p && strT n) = false) :
    Calls Try.prog 9 #[.slice A l.length c, .slice S s.length d, .agg #[.int .i64 b, .int .i64 p], .int .i64 n] w fun e w' => e = .returned (.tuple #[.int .i64 0, .bool false, .int .i64 1]) ∧ Below w.heap.size w w' := by
  have hB := below1 w (Obj.cells #[.int .i64 b, .int .i64 p] 31)
  have HR := Lib.hid (fRight_any A l c S s d b p _ (hs.keep hB) hm (hz.keep hB) hmz)
  have HS := Lib.hid (fun W => fStretch_any n W)
  generalize rightF l s b p = r at *
  generalize strT n = q at *
  cases r
  · go_enter Try.func9, Try.ntmps9
    go_wp2_with (first | (go_at_call 12; (with_reducible refine HR.out.mono ?_); rintro e w2 ⟨rfl, hb⟩; replace hB := bstep hB (Nat.le_refl _) hb; clear hb) | (go_at_call 24; (with_reducible refine (HS.out _).mono ?_); rintro e w2 ⟨rfl, rfl⟩))
    go_ret3
    exact ⟨rfl, hB⟩
  · simp at h
    subst h
    go_enter Try.func9, Try.ntmps9
    go_wp2_with (first | (go_at_call 12; (with_reducible refine HR.out.mono ?_); rintro e w2 ⟨rfl, hb⟩; replace hB := bstep hB (Nat.le_refl _) hb; clear hb) | (go_at_call 24; (with_reducible refine (HS.out _).mono ?_); rintro e w2 ⟨rfl, rfl⟩))
    go_ret3
    exact ⟨rfl, hB⟩

def firstVal (b p n : Int) : Value := if rightF l s b p && strT n then firstT (firstV l s b p n.toNat) else .tuple #[.int .i64 0, .bool false, .int .i64 1]
theorem fFirst_any (b p n : Int) (w : World) (hs : Sl eT 3 w A l) (hm : l.length ≤ 9223372036854775807) (hz : Sl eI 1 w S s) (hmz : s.length ≤ 9223372036854775807) :
    Calls Try.prog 9 #[.slice A l.length c, .slice S s.length d, .agg #[.int .i64 b, .int .i64 p], .int .i64 n] w fun e w' => e = .returned (firstVal l s b p n) ∧ Below w.heap.size w w' := by
  unfold firstVal
  cases h : (rightF l s b p && strT n)
  · exact fFirst_no A l c S s d b p n w hs hm hz hmz h
  · rw [Bool.and_eq_true] at h
    have h2 := of_decide_eq_true h.2
    obtain ⟨u, rfl⟩ := Int.eq_ofNat_of_zero_le h2.1
    exact fFirst_yes A l c S s d b p u w hs hm hz hmz (rightF_t h.1) (by omega)
/-- are all deadlines kept? -/
def keepsB (b p n : Int) : Bool := rightF l s b p && strT n && (firstV l s b p n.toNat).isNone
set_option maxHeartbeats 1000000 in
theorem fKeeps_any (b p n : Int) (w : World) (hs : Sl eT 3 w A l) (hm : l.length ≤ 9223372036854775807) (hz : Sl eI 1 w S s) (hmz : s.length ≤ 9223372036854775807) :
    Calls Try.prog 13 #[.slice A l.length c, .slice S s.length d, .agg #[.int .i64 b, .int .i64 p], .int .i64 n] w fun e w' => e = .returned (.bool (keepsB l s b p n)) ∧ Below w.heap.size w w' := by
  have hB := below1 w (Obj.cells #[.int .i64 b, .int .i64 p] 31)
  have HF := Lib.hid (fFirst_any A l c S s d b p n _ (hs.keep hB) hm (hz.keep hB) hmz)
  unfold keepsB
  unfold firstVal at HF
  cases h : (rightF l s b p && strT n)
  · rw [h] at HF
    simp only [Bool.false_eq_true, if_false] at HF
    rw [Bool.false_and]
    go_enter Try.func13, Try.ntmps13
    go_wp2_with (go_at_call 9; (with_reducible refine HF.out.mono ?_); rintro e w2 ⟨rfl, hb⟩; replace hB := bstep hB (Nat.le_refl _) hb; clear hb)
    go_ret
    exact ⟨rfl, hB⟩
  · rw [h] at HF
    simp only [if_true, firstT] at HF
    rw [Bool.true_and]
    generalize firstV l s b p n.toNat = o at *
    cases o with
    | none =>
      go_enter Try.func13, Try.ntmps13
      go_wp2_with (go_at_call 9; (with_reducible refine HF.out.mono ?_); rintro e w2 ⟨rfl, hb⟩; replace hB := bstep hB (Nat.le_refl _) hb; clear hb)
      go_ret
      exact ⟨rfl, hB⟩
    | some x =>
      go_enter Try.func13, Try.ntmps13
      go_wp2_with (go_at_call 9; (with_reducible refine HF.out.mono ?_); rintro e w2 ⟨rfl, hb⟩; replace hB := bstep hB (Nat.le_refl _) hb; clear hb)
      go_ret
      exact ⟨rfl, hB⟩

set_option maxRecDepth 100000 in
set_option maxHeartbeats 4000000 in
theorem rFirst_yes (b p : Int) (u : Nat) (w : World) (hs : Sl eT 3 w A l) (hz : Sl eI 1 w S s) (h : RightF l s b p) (hu : u ≤ 1048576) :
    Calls Try.prog 14 #[.slice A l.length c, .slice S s.length d, .agg #[.int .i64 b, .int .i64 p], .int .i64 u] w fun e w' => e = .returned (.int .i64 ((firstV l s b p u).getD (-1))) ∧ Below w.heap.size w w' := by
  have hB := below1 w (Obj.cells #[.int .i64 b, .int .i64 p] 25)
  have bk := Blk.new w 25 #[.int .i64 b, .int .i64 p]
  have HP := Lib.hid (fun W hW => qPoints_yes A l c u W hW h.all hu)
  have H := Lib.hid h
  clear h
  have HX := Lib.hid (pts_in (allT_mem H.out.all) hu)
  have HV : Hid (firstV l s b p u = (ptsTo l (u + 1)).find? (overP l s b p)) := rfl
  have hpl := pts_len l (u + 1)
  generalize ptsTo l (u + 1) = xs at *
  generalize firstV l s b p u = FV at *
  have hs1 := hs.keep hB
  have hz1 := hz.keep hB
  go_enter Try.func14, Try.ntmps14
  go_wp2_with fail
  generalize w.alloc (Obj.cells #[.int .i64 b, .int .i64 p] 25) = w1 at *
  refine (HP.out _ hs1).mono ?_
  rintro e w3 ⟨O, od, rfl, own, hb⟩
  replace hB := bstep hB (Nat.le_refl _) hb
  replace bk := bk.keep hb
  replace hs1 := hs1.keep hb
  replace hz1 := hz1.keep hb
  clear hb
  have hsp := own.sl eI_ok
  clear own
  go_wp2_with fail
  go_loopw [10] (fun i wr => ∃ k : Nat, k ≤ xs.length ∧ i = .int .i64 k ∧ Hid (∀ i (hi : i < xs.length), i < k → overP l s b p xs[i] = false) ∧ Below w3.heap.size w3 wr) (fun i _ => xs.length - (intOf i).toNat)
  case atStart => exact ⟨0, Nat.zero_le _, rfl, fun i _ hi => absurd hi (by omega), Below.refl _ _⟩
  case round =>
    obtain ⟨k, hk, rfl, HM, hb⟩ := hrel
    by_cases hlt : k < xs.length
    · obtain ⟨b1, o1, rfl, e0⟩ := (hsp.keep hb).int_at hlt
      have k0 : (0 : Int) ≤ (k : Int) := by omega
      have k1 : (k : Int) < (xs.length : Int) := by omega
      have hx := HX.out _ (List.getElem_mem hlt)
      have bk2 := bk.keep hb
      have c0 := bk2.cell 0 (.int .i64 b) rfl
      have c1 := bk2.cell 1 (.int .i64 p) rfl
      have hsw := hs1.keep hb
      have hzw := hz1.keep hb
      have HN : Hid (∀ m : Aft wr, Calls Try.prog 21 #[.slice A l.length c, .slice S s.length d, .int .i64 xs[k]] m.w fun e w' => e = .returned (.int .i64 (needV l s xs[k])) ∧ m.w = w') := fun m => rNeeds_yes A l c S s d xs[k] m.w (hsw.keep m.ok) (hzw.keep m.ok) H.out.all H.out.len H.out.sec (by omega) hx.2
      have HL : Hid (∀ m : Aft wr, Calls Try.prog 20 #[.agg #[.int .i64 b, .int .i64 p], .int .i64 xs[k]] m.w fun e w' => e = .returned (.int .i64 (Sup.leastI b p xs[k])) ∧ Below m.w.heap.size m.w w') := fun m => Sup.refLeast_any b p xs[k] m.w H.out.res.1 H.out.res.2.1 H.out.res.2.2 (by omega) hx.2
      have HF := Lib.hid (fun hp => find_some_at (p := overP l s b p) hlt hp HM.out)
      have HM2 : Hid (overP l s b p xs[k] = false → ∀ i (hi : i < xs.length), i < k + 1 → overP l s b p xs[i] = false) := fun hp i hi hik => by
        by_cases he : i = k
        · subst he; exact hp
        · exact HM.out i hi (by omega)
      have HO : Hid (overP l s b p xs[k] = decide (Sup.leastI b p xs[k] < needV l s xs[k])) := rfl
      clear HM
      generalize overP l s b p xs[k] = q at *
      generalize Sup.leastI b p xs[k] = L at *
      generalize needV l s xs[k] = D at *
      generalize xs[k] = x at *
      go_wp2_with fail
      (have aft_c0 := Aft.cell c0; have aft_c1 := Aft.cell c1; have aft_e0 := Aft.cell e0; refine wp_region_aft (by kernel_rfl) (by kernel_rfl) ?_; (repeat (go_big_quiet_step ((first | (go_at_call 21; with_reducible exact aft_same (HN.out _)) | (go_at_call 20; with_reducible exact aft_call (HL.out _)))))); refine wpQuiet_nil ?_; clear aft_c0 aft_c1 aft_e0; intro w6 hw2_; have hb6 := Aft.below hw2_; clear hw2_)
      replace hb := bstep hb (Nat.le_refl _) hb6
      have e1 := kcell hb6 e0
      clear e0 c0 c1
      by_cases hxd : L < D
      · have hq : q = true := by rw [HO.out]; exact decide_eq_true hxd
        go_wp2_with fail
        go_ret
        refine ⟨?_, bstep hB (Nat.le_refl _) hb⟩
        rw [HV.out, HF.out hq]
        rfl
      · have hq : q = false := by rw [HO.out]; exact decide_eq_false hxd
        go_wp2_with fail
        go_roundw
        case rel => exact ⟨k + 1, by omega, by go_num, HM2.out hq, hb⟩
        case measure => simp [intOf]; omega
    · obtain rfl : k = xs.length := by omega
      go_wp2_with fail
      go_ret
      refine ⟨?_, bstep hB (Nat.le_refl _) hb⟩
      rw [HV.out, find_none_at (fun i hi => HM.out i hi hi)]
      rfl
end
end Go.Proofs.Ytojccjdldmjfgaa
