/- Walk: the document's table. -/
import Derived.Test.YtkhbnklaglnfdaaW9
import Derived.Test.YtkhbnklaglnfdaaEW7
namespace Go.Proofs.Ytkhbnklaglnfdaa
open Go.RowKit Go.Lib

theorem off_bd (l : List Tk) {n : Nat} (hn : n ≤ 500) : ∀ k, offM l n k ≤ k * 500
  | 0 => Nat.zero_le _
  | k + 1 => by
    have h1 := off_bd l hn k
    have h2 : n / pN l k ≤ 500 := Nat.le_trans (Nat.div_le_self _ _) hn
    have e : offM l n (k + 1) = offM l n k + n / pN l k := rfl
    omega
section
variable {js : List Edf.Job} {wh s : List Int} {n t : Nat} {mk : Option (List Int)} {out : List Int}
theorem docTo_neg (h : docTo js wh s t = some out) (hx : s.getD t (-1) = -1) : docTo js wh s (t + 1) = some (out ++ [-1]) := by rw [docTo, h]; simp only; rw [hx, if_pos (by omega)]
theorem docTo_bad (h : docTo js wh s t = some out) {X : Nat} (hX : X < js.length) (hx : s.getD t (-1) = (X : Int)) (hd : js[X].dead ≤ t) : docTo js wh s (t + 1) = none := by rw [docTo, h]; simp only; rw [hx, if_neg (by omega), Edf.dead_get hX, if_pos hd]
theorem docTo_ok (h : docTo js wh s t = some out) {X : Nat} (hX : X < js.length) (hx : s.getD t (-1) = (X : Int)) (hd : ¬ js[X].dead ≤ t) (hw : X < wh.length) : docTo js wh s (t + 1) = some (out ++ [wh[X]]) := by
  rw [docTo, h]
  simp only
  rw [hx, if_neg (by omega), Edf.dead_get hX, if_neg hd, Int.toNat_natCast, List.getD_eq_getElem?_getD, List.getElem?_eq_getElem hw]
  rfl
theorem doc_n1 (hdm : docM js wh s n = mk) (h : docTo js wh s (t + 1) = none) (ht : t < n) : mk = none := by rw [← hdm]; unfold docM; rw [docTo_none h ht]
theorem doc_n2 (hdm : docM js wh s n = mk) (h : docTo js wh s n = some out) {k : Nat} (hk : k < js.length) (hc : (Edf.cnt s (k : Int) n : Int) < js[k].cost) : mk = none := by
  rw [← hdm]
  unfold docM
  rw [h]
  simp only
  rw [if_neg]
  intro hb
  have := List.all_eq_true.1 hb k (List.mem_range.2 hk)
  rw [List.getD_eq_getElem?_getD, List.getElem?_eq_getElem hk] at this
  have := of_decide_eq_true this
  simp only [Option.getD_some] at this
  omega
theorem doc_s (hdm : docM js wh s n = mk) (h : docTo js wh s n = some out) (hc : ∀ k (hk : k < js.length), js[k].cost ≤ (Edf.cnt s (k : Int) n : Int)) : mk = some out := by
  rw [← hdm]
  unfold docM
  rw [h]
  simp only
  rw [if_pos]
  refine List.all_eq_true.2 fun k hk => ?_
  have hk := List.mem_range.1 hk
  rw [List.getD_eq_getElem?_getD, List.getElem?_eq_getElem hk]
  exact decide_eq_true (hc k hk)
end
theorem only_row {a w w1 : World} {g : Nat} {r : Option Nat} (h : a.grownBy w (some g)) (k : w.grownBy w1 r) (hr : ∀ q, r = some q → a.heap.size ≤ q) : a.grownBy w1 (some g) :=
  ⟨k.os.trans h.os, k.tape.trans h.tape, k.output.trans h.output, Nat.le_trans h.size k.size, fun i hi hne => (k.block i (Nat.lt_of_lt_of_le hi h.size) (fun e => by have := hr i e.symm; omega)).trans (h.block i hi hne)⟩
theorem Sl.off {α : Type} {enc : α → List Value} {sz : Nat} {w w' : World} {A : Option Addr} {xs : List α} {g : Nat} (h : Sl enc sz w A xs) (hne : ∀ q, blk A = some q → q ≠ g) (hg : w.grownBy w' (some g)) : Sl enc sz w' A xs :=
  h.grown hg (fun r hr e => by injection hr with hr; exact hne r e hr.symm)
theorem getD_in {s : List Int} {u : Nat} (h : u < s.length) (d : Int) : s.getD u d = s[u] := by rw [List.getD_eq_getElem?_getD, List.getElem?_eq_getElem h]; rfl

set_option maxRecDepth 100000 in
set_option maxHeartbeats 8000000 in
theorem rmake_any (A : Option Addr) (l : List Tk) (c : Nat) (m : Nat) (w : World) (hs : Sl eT 3 w A l) (h : allT l = true) (h1 : 1 ≤ m) (h2 : m ≤ 500) :
    Calls Try.prog 13 #[.slice A l.length c, .int .i64 m] w (MkRet l m w) := by
  have hs8 := allT_len h
  have HY := Lib.hid (fun W hW => rhyp_any A l c m W hW h h1 (by omega))
  obtain ⟨i0, hi0, hz0, hz1', hz2⟩ := info_parts info_int
  cases hh : hypM l m l.length with
  | none =>
    rw [hh] at HY
    simp only [hypT, Option.getD_none, Option.isSome_none] at HY
    have HM := Lib.hid (make_hyp hh)
    clear hh h
    go_enter Try.func13, Try.ntmps13
    go_wp2_with (go_at_call 14; (with_reducible refine (HY.out _ hs).mono ?_); rintro e w2 ⟨rfl, rfl⟩)
    go_ret2
    exact mk_none HM.out (Below.refl _ _)
  | some n =>
    rw [hh] at HY
    simp only [hypT, Option.getD_some, Option.isSome_some] at HY
    have hr := hyp_pos (allT_mem h) h1 (Nat.le_refl _) hh
    have R := rnd_of (allT_mem h) hh
    have hJB := jobs_any A l c n w hs h R (by omega)
    have hJ := off_bd l (show n ≤ 500 by omega) l.length
    have hjl := jobs_len l n l.length
    have hwl := who_len l n l.length
    have hok := job_ok R (show n ≤ 500 by omega)
    have hsch := Edf.fill_sched (jobsM l n l.length) n (fun j hj => (Edf.okJ_t (hok j hj).1).1)
    have hdm := doc_make R hr.1 hh hsch
    have hsl := Edf.fillAll_len (jobsM l n l.length) n (Edf.byDeadTo (jobsM l n l.length) (jobsM l n l.length).length) (jobsM l n l.length).length
    have hRR := fun W O d hW => Edf.refRun_any O (jobsM l n l.length) d n W hW (by rw [hjl]; omega) (by omega) (fun j hj => (hok j hj).1)
    generalize jobsM l n l.length = js at *
    generalize whoM l n l.length = wh at *
    generalize Edf.fillAll js n (Edf.byDeadTo js js.length) js.length = s at *
    generalize offM l n l.length = J at *
    have hJ4 : J ≤ 4000 := by omega
    have HRR : Hid (∀ (W : World) (O : Option Addr) (d : Nat), Sl Edf.eJ 3 W O js → Calls Try.prog 22 #[.slice O J d, .int .i64 n] W fun e w' => ∃ (Os : Option Addr) (ds : Nat), e = .returned (.slice Os n ds) ∧ Own eI 1 w' W.heap.size 3 Os ds s ∧ Below W.heap.size W w') := fun W O d hW => by
      have := hRR W O d hW
      rw [hjl] at this
      exact this.mono fun e w' ⟨Os, ds, he, ho, hb⟩ => ⟨Os, ds, by rw [he, hsl], ho, hb⟩
    have HJB := Lib.hid hJB
    have HD := Lib.hid (And.intro hdm (And.intro hsch (And.intro hjl (And.intro hwl hsl))))
    have hn5 : n ≤ 500 := by omega
    have hn1 := hr.1
    clear hRR hJB hdm hsch hjl hwl hsl hok R hh h hr hJ
    go_enter Try.func13, Try.ntmps13
    go_wp2_with (go_at_call 14; (with_reducible refine (HY.out _ hs).mono ?_); rintro e w2 ⟨rfl, rfl⟩)
    with_reducible refine HJB.out.mono ?_
    rintro e w2 ⟨O, O2, d, d2, rfl, hO, hO2, _, hb2⟩
    go_wp2_with fail
    with_reducible refine (HRR.out w2 O d (hO.sl eJ_ok)).mono ?_
    rintro e w3 ⟨Os, ds, rfl, hOs, hb3⟩
    have H3 := Lib.hid (And.intro (hO.keep hb3) (And.intro (hO2.keep hb3) (And.intro hOs (bstep hb2 (Nat.le_refl _) hb3))))
    have hz3 := H3.out.2.2.2.size
    clear hO hO2 hOs hb2 hb3
    go_wp2_with (at_make; refine wpList_make_full _ rfl _ _ 23 rfl w3.heap.size 3 i0 _ 1 Try.underlying23 hi0 hz0 hz1' _ _ _ _ J rfl rfl (by omega) (by omega) (by rw [hz2]; omega) (by simp only [maxLen]; omega) (Nat.le_refl _) ?_; intro w4 ownH hg; rw [made_ints] at ownH; (have ownG : Own eI 1 w4 w3.heap.size 3 (some ⟨w3.heap.size, 0, none⟩) J (List.replicate J 0) := by simpa [Own] using ownH); (have hb4 := below_none hg); clear hg ownH)
    have hgl : w3.heap.size < w4.heap.size := (ownG.lt _ rfl).2
    have H4 := Lib.hid (And.intro (H3.out.1.keep hb4) (And.intro (H3.out.2.1.keep hb4) (And.intro (H3.out.2.2.1.keep hb4) (And.intro (bstep H3.out.2.2.2 (Nat.le_refl _) hb4) (And.intro (fun q hq => Nat.ne_of_lt (H3.out.1.lt q hq).2) (And.intro (fun q hq => Nat.ne_of_lt (H3.out.2.1.lt q hq).2) (fun q hq => Nat.ne_of_lt (H3.out.2.2.1.lt q hq).2)))))))
    have HG0 := Lib.hid ownG
    have HH0 : Hid (Edf.hadC s J 0 = List.replicate J 0) := Edf.hadC_zero s J
    clear H3 hb4 ownG HY HJB HRR
    generalize w3.heap.size = g at *
    go_loopw [12, 13] (fun v12 v13 wr => ∃ (t : Nat) (out : List Int) (O3 : Option Addr) (d3 : Nat), v13 = .int .i64 t ∧ v12 = .slice O3 t d3 ∧ t ≤ n ∧ Hid (docTo js wh s t = some out ∧ out.length = t) ∧ Own eI 1 wr w4.heap.size 3 O3 d3 out ∧ Own eI 1 wr g 3 (some ⟨g, 0, none⟩) J (Edf.hadC s J t) ∧ Hid (w4.grownBy wr (some g))) (fun _ v13 _ => n - (intOf v13).toNat)
    case atStart => exact ⟨0, [], none, 0, rfl, rfl, Nat.zero_le _, ⟨rfl, rfl⟩, Own.nil _ _ _, by rw [HH0.out]; exact HG0.out, World.grownBy.refl _ _⟩
    case round =>
      clear HG0 HH0
      obtain ⟨t, out, O3, d3, rfl, rfl, ht, HO, ownO, ownG, HG⟩ := hrel
      have hz4 := HG.out.size
      by_cases hlt : t < n
      · have hts : t < s.length := by have := HD.out.2.2.2.2; omega
        obtain ⟨bs, os, rfl, cS⟩ := ((H4.out.2.2.1.sl eI_ok).off H4.out.2.2.2.2.2.2 HG.out).int_at hts
        have hst := getD_in hts (-1)
        have t0 : (0 : Int) ≤ (t : Int) := by omega
        have t1 : (t : Int) < (n : Int) := by omega
        have hx : s[t] = -1 ∨ ∃ X : Nat, X < J ∧ s[t] = (X : Int) := by
          rw [← hst]
          rcases HD.out.2.1 t hlt with ⟨a1, _⟩ | ⟨X, a1, a2, _⟩
          · exact .inl a1
          · exact .inr ⟨X, by rw [← HD.out.2.2.1]; exact a1, a2⟩
        rcases hx with hx | ⟨X, hX, hx⟩
        · rw [hx] at cS hst
          have HN := Lib.hid (docTo_neg HO.out.1 hst)
          have HC := Lib.hid (Edf.hadC_same s J t (by rw [hst]; omega))
          clear hx hst
          go_wp2_with (at_builtin; refine wpList_append_sl _ rfl (.tmp 46) (.tmp 47) rfl elI eI_ok (ownO.alloc _) (n := t) HO.out.2 rfl (m := 1) rfl (ys := [-1]) rfl (Sl.new eI_ok wr (-1) _ rfl _) (by simp only [maxLen]; omega) (by omega) (by simp; omega) _ rfl (t + 1) rfl ?_; intro A5 c5 w6 own6 hg6 at6; (have HW := Lib.hid (And.intro own6 (And.intro hg6 at6))); clear own6 hg6 at6)
          go_roundw
          case rel => exact ⟨t + 1, out ++ [-1], A5, c5, by go_num, rfl, by omega, ⟨HN.out, by rw [List.length_append, HO.out.2]; rfl⟩, HW.out.1, by rw [HC.out]; exact (ownG.alloc _).kept HW.out.2.1 (.inr (fun e => by have h9 : w4.heap.size ≤ g := (ownO.lt g e.symm).1; omega)), only_row (only_alloc HG.out _) HW.out.2.1 (fun q hq => (ownO.lt q hq).1)⟩
          case measure => simp [intOf]; omega
        · rw [hx] at cS hst
          have hXj : X < js.length := by rw [HD.out.2.2.1]; exact hX
          have hXw : X < wh.length := by rw [HD.out.2.2.2.1]; exact hX
          obtain ⟨bj, oj, rfl, _, cD, _⟩ := ((H4.out.1.sl eJ_ok).off H4.out.2.2.2.2.1 HG.out).job_at hXj
          have X0 : (0 : Int) ≤ (X : Int) := by omega
          have X1 : (X : Int) < (J : Int) := by omega
          have HBd := Lib.hid (fun hd => docTo_bad HO.out.1 hXj hst hd)
          have HOk := Lib.hid (fun hd => docTo_ok HO.out.1 hXj hst hd hXw)
          have HC := Lib.hid (Edf.hadC_set s J t X hst hX)
          clear hx hst
          generalize js[X].dead = D at *
          by_cases hd : D ≤ t
          · have hM := doc_n1 HD.out.1 (HBd.out hd) hlt
            have HF := Lib.hid (And.intro hM (below_only H4.out.2.2.2.1 HG.out hz3))
            clear hM ownO ownG
            go_wp2_with fail
            go_ret2
            exact mk_none HF.out.1 HF.out.2
          · have hHl : X < (Edf.hadC s J t).length := by rw [Edf.hadC_len]; exact hX
            have cG := own_at ownG hHl
            have fG := own_frozen ownG X
            rw [Edf.hadC_at] at cG
            have hct := Edf.cnt_top s (X : Int) t
            have HC2 := HC.out
            generalize hcx : Edf.cnt s (X : Int) t = C at *
            clear hcx
            obtain ⟨ownG2, hgG⟩ := own_set ownG X ((C : Int) + 1)
            have hlG := (ownG.lt g rfl).2
            have hO4 := ownO.kept hgG (.inr (fun e => by have h9 : w4.heap.size ≤ g := (ownO.lt g e).1; omega))
            obtain ⟨bw, ow, rfl, cW⟩ := ((H4.out.2.1.sl eI_ok).off H4.out.2.2.2.2.2.1 (only_trans HG.out hgG)).int_at hXw
            have HG5 := Lib.hid (only_trans HG.out hgG)
            have HN := Lib.hid (HOk.out hd)
            have hd1 : (t : Int) < D := by omega
            go_upto_region 17 with (fail)
            clear cG fG hct HC2 hgG hlG ownO ownG HG cS cD HBd HOk hd hd1
            generalize wr.setCell ⟨g, X, none⟩ (.int .i64 ((C : Int) + 1)) = w5 at *
            have hz5 := HG5.out.size
            generalize wh[X] = z at *
            go_wp2_with (at_builtin; refine wpList_append_sl _ rfl (.tmp 66) (.tmp 71) rfl elI eI_ok (hO4.alloc _) (n := t) HO.out.2 rfl (m := 1) rfl (ys := [z]) rfl (Sl.new eI_ok w5 z _ rfl _) (by simp only [maxLen]; omega) (by omega) (by simp; omega) _ rfl (t + 1) rfl ?_; intro A5 c5 w6 own6 hg6 at6; (have HW := Lib.hid (And.intro own6 (And.intro hg6 at6))); clear own6 hg6 at6)
            go_roundw
            case rel => exact ⟨t + 1, out ++ [z], A5, c5, by go_num, rfl, by omega, ⟨HN.out, by rw [List.length_append, HO.out.2]; rfl⟩, HW.out.1, by rw [HC.out]; exact (ownG2.alloc _).kept HW.out.2.1 (.inr (fun e => by have h9 : w4.heap.size ≤ g := (hO4.lt g e.symm).1; omega)), only_row (only_alloc HG5.out _) HW.out.2.1 (fun q hq => (hO4.lt q hq).1)⟩
            case measure => simp [intOf]; omega
      · obtain rfl : t = n := by omega
        have t1 : ¬ (t : Int) < (t : Int) := by omega
        have HK := Lib.hid (And.intro ownO (And.intro ownG HG.out))
        have hHl := Edf.hadC_len s J t
        clear ownO ownG HG hlt
        go_wp2_with fail
        go_loopw [15] (fun v15 ws => ∃ k : Nat, v15 = .int .i64 k ∧ k ≤ J ∧ Hid (∀ j (hj : j < js.length), j < k → js[j].cost ≤ (Edf.cnt s (j : Int) t : Int)) ∧ Below wr.heap.size wr ws) (fun v15 _ => J - (intOf v15).toNat)
        case atStart => exact ⟨0, rfl, Nat.zero_le _, fun j _ h => absurd h (Nat.not_lt_zero _), Below.refl _ _⟩
        case round =>
          obtain ⟨k, rfl, hk, HA, hb⟩ := hrel
          by_cases hkJ : k < J
          · have hkj : k < js.length := by rw [HD.out.2.2.1]; exact hkJ
            obtain ⟨bj, oj, rfl, _, _, cC⟩ := (((H4.out.1.sl eJ_ok).off H4.out.2.2.2.2.1 HK.out.2.2).keep hb).job_at hkj
            have cG := own_at (HK.out.2.1.keep hb) (show k < (Edf.hadC s J t).length by rw [hHl]; exact hkJ)
            rw [Edf.hadC_at] at cG
            have k0 : (0 : Int) ≤ (k : Int) := by omega
            have k1 : (k : Int) < (J : Int) := by omega
            have HN := Lib.hid (fun hc => doc_n2 HD.out.1 HO.out.1 hkj hc)
            have HA2 : Hid (js[k].cost ≤ (Edf.cnt s (k : Int) t : Int) → ∀ j (hj : j < js.length), j < k + 1 → js[j].cost ≤ (Edf.cnt s (j : Int) t : Int)) := fun h0 j hj hjk => by
              by_cases he : j = k
              · subst he; exact h0
              · exact HA.out j hj (by omega)
            generalize js[k].cost = co at *
            generalize Edf.cnt s (k : Int) t = C at *
            by_cases hc : (C : Int) < co
            · have hM := HN.out hc
              have HF := Lib.hid (And.intro hM (bstep (below_only H4.out.2.2.2.1 HK.out.2.2 hz3) (Nat.le_refl _) hb))
              clear hM HN HA HA2
              go_upto_region 21 with (fail)
              (have aft_cC := Aft.cell cC; have aft_cG := Aft.cell cG; refine wp_region_aft (by kernel_rfl) (by kernel_rfl) ?_; (repeat (go_big_quiet_step (fail))); refine wpQuiet_nil ?_; clear aft_cC aft_cG; intro w7 hw2_; have hb7 := Aft.below hw2_; clear hw2_)
              have HF7 := Lib.hid (bstep HF.out.2 (Nat.le_refl _) hb7)
              clear cC cG hb7 hb
              go_wp2_with fail
              go_ret2
              exact mk_none HF.out.1 HF7.out
            · have HA3 := Lib.hid (HA2.out (by omega))
              clear HN HA HA2
              go_upto_region 21 with (fail)
              (have aft_cC := Aft.cell cC; have aft_cG := Aft.cell cG; refine wp_region_aft (by kernel_rfl) (by kernel_rfl) ?_; (repeat (go_big_quiet_step (fail))); refine wpQuiet_nil ?_; clear aft_cC aft_cG; intro w7 hw2_; have hb7 := Aft.below hw2_; clear hw2_)
              have HF7 := Lib.hid (bstep hb (Nat.le_refl _) hb7)
              clear cC cG hb7 hb
              go_wp2_with fail
              go_roundw
              case rel => exact ⟨k + 1, by go_num, by omega, HA3.out, HF7.out⟩
              case measure => simp [intOf]; omega
          · obtain rfl : k = J := by omega
            have k1 : ¬ (k : Int) < (k : Int) := by omega
            have hM := doc_s HD.out.1 HO.out.1 (fun j hj => HA.out j hj (by have := HD.out.2.2.1; omega))
            have HF := Lib.hid (And.intro hM (And.intro (bstep (below_only H4.out.2.2.2.1 HK.out.2.2 hz3) (Nat.le_refl _) hb) (HK.out.1.keep hb)))
            clear hM HA hb
            go_wp2_with fail
            go_ret2
            exact mk_some HF.out.1 HO.out.2.symm (HF.out.2.2.from_ (Nat.le_trans (Nat.le_trans hz3 (Nat.le_of_lt hgl)) (Nat.le_refl _))) HF.out.2.1
end Go.Proofs.Ytkhbnklaglnfdaa
