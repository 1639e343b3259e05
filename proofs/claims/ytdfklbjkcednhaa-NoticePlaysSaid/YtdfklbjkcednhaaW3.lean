/- Walk: sorting by insertion. -/
import Derived.Test.YtdfklbjkcednhaaW2
import Derived.Shelf.Abstract
namespace Go.Proofs.Ytdfklbjkcednhaa
open Go.RowKit Go.Lib

/-- the outer loop of the insertion -/
structure InsO (X P S : List Nt) (a i : Nat) (B T : List Nt) : Prop where
  e : T = P ++ B ++ (X.drop (i - a) ++ S)
  s : Srt B
  p : B.Perm (X.take (i - a))
  l : a < i
  pa : P.length = a
section
variable {X P S B T : List Nt} {a i : Nat}
theorem InsO.start (hP : P.length = a) : InsO X P S a (a + 1) (X.take 1) (P ++ X ++ S) := by
  refine ⟨?_, ?_, by rw [Nat.add_sub_cancel_left], by omega, hP⟩
  · rw [Nat.add_sub_cancel_left]
    conv => lhs; rw [← List.take_append_drop 1 X]
    simp only [List.append_assoc]
  · cases X <;> simp
theorem InsO.blen (h : InsO X P S a i B T) (hi : i - a < X.length) : a + B.length = i := by
  have h1 := h.p.length_eq
  have h2 := h.l
  rw [List.length_take] at h1
  omega
theorem InsO.inner (h : InsO X P S a i B T) (hi : i - a < X.length) : InsI a i B X[i - a] P (X.drop (i - a + 1) ++ S) T := by
  have h1 := InsI.start (B := B) (S := X.drop (i - a + 1) ++ S) (x := X[i - a]) h.pa
  rw [h.blen hi] at h1
  rw [h.e, List.drop_eq_getElem_cons hi]
  exact h1
theorem InsO.tags (h : InsO X P S a i B T) (ht : X.Pairwise fun x y => x.nTag < y.nTag) (hi : i - a < X.length) : ∀ y ∈ B, y.nTag < X[i - a].nTag := fun y hy => by
  have h1 := h.p.mem_iff.1 hy
  obtain ⟨j, hj, rfl⟩ := List.getElem_of_mem h1
  rw [List.length_take] at hj
  rw [List.getElem_take]
  exact List.pairwise_iff_getElem.1 ht j (i - a) (by omega) hi (by omega)
theorem InsO.next (h : InsO X P S a i B T) (hi : i - a < X.length) {B' : List Nt} (hs : Srt B') (hp : B'.Perm (B ++ [X[i - a]])) : InsO X P S a (i + 1) B' (P ++ B' ++ (X.drop (i - a + 1) ++ S)) := by
  have h2 := h.l
  have e : i + 1 - a = i - a + 1 := by omega
  refine ⟨by rw [e], hs, ?_, by omega, h.pa⟩
  rw [e, List.take_add_one, List.getElem?_eq_getElem hi]
  exact hp.trans (List.Perm.append_right _ h.p)
theorem InsO.done (h : InsO X P S a i B T) (hi : ¬ i - a < X.length) : Done (P ++ X ++ S) T a (a + X.length) := by
  refine ⟨P, X, B, S, rfl, ?_, h.pa, rfl, ?_, h.s⟩
  · rw [h.e, List.drop_eq_nil_of_le (by omega)]; rfl
  · have := h.p
    rwa [List.take_of_length_le (by omega)] at this
theorem InsO.len (h : InsO X P S a i B T) : T.length = (P ++ X ++ S).length := by
  have h1 := h.p.length_eq
  rw [h.e]
  simp at h1 ⊢
  omega
end
theorem InsI.tlen {a j : Nat} {B P S T : List Nt} {x : Nt} (h : InsI a j B x P S T) : T.length = P.length + B.length + 1 + S.length := by
  obtain ⟨A1, A2, rfl, rfl, _⟩ := h
  simp
  omega

set_option maxRecDepth 100000 in
set_option maxHeartbeats 4000000 in
theorem insert_any (B q c L a b : Nat) (X P S : List Nt) (T0 : List Nt) (w : World) (hT0 : Hid (P ++ X ++ S = T0)) (h : Rw B w q c T0) (hL : Hid (T0.length = L)) (hP : P.length = a) (hX : a + X.length = b) (ht : X.Pairwise fun x y => x.nTag < y.nTag) (h3 : L ≤ 1000) :
    Calls Try.prog 30 #[.slice (some ⟨q, 0, none⟩) L c, .int .i64 a, .int .i64 b, .func (.func 19) #[] #[]] w fun e w' => e = .returned (.tuple #[]) ∧ (∃ T', Rw B w' q c T' ∧ Done T0 T' a b) ∧ Sw q w w' := by
  have hbl : b ≤ L := by have h1 := hT0.out; have := hL.out; subst h1; simp at this; omega
  have hab : a ≤ b := by omega
  have HX := Lib.hid hX
  have HP := Lib.hid hP
  clear hX hP
  go_enter Try.func30, Try.ntmps30
  go_wp2_with fail
  go_loopw [8] (fun v8 wr => ∃ (i : Nat) (B' T' : List Nt), v8 = .int .i64 i ∧ i ≤ b + 1 ∧ InsO X P S a i B' T' ∧ Rw B wr q c T' ∧ Sw q w wr) (fun v8 _ => b + 1 - (intOf v8).toNat)
  case atStart => exact ⟨a + 1, _, _, by go_num, by omega, InsO.start HP.out, by rw [hT0.out]; exact h, Sw.refl _⟩
  case round =>
    clear h
    obtain ⟨i, B', T', rfl, hib, hI, hW, hS⟩ := hrel
    have hai := hI.l
    by_cases hlt : i < b
    · have k1 : (i : Int) < (b : Int) := by omega
      have hi : i - a < X.length := by have := HX.out; omega
      have hJ0 := hI.inner hi
      have HTG := Lib.hid (hI.tags ht hi)
      have HI := Lib.hid hI
      have HNX := Lib.hid (fun B'' => hI.next hi (B' := B''))
      have hl0 : Hid (P.length + B'.length + 1 + (X.drop (i - a + 1) ++ S).length = L) := by
        have h1 := hJ0.tlen
        have h2 := hI.len
        rw [hT0.out] at h2
        have := hL.out
        unfold Hid
        omega
      generalize X[i - a] = x at *
      generalize X.drop (i - a + 1) ++ S = S2 at *
      clear hI
      go_wp2_with fail
      go_loopw [9] (fun v9 ws => ∃ (j : Nat) (T2 : List Nt), v9 = .int .i64 j ∧ InsI a j B' x P S2 T2 ∧ Rw B ws q c T2 ∧ Sw q w ws) (fun v9 _ => (intOf v9).toNat)
      case atStart => exact ⟨i, T', rfl, hJ0, hW, hS⟩
      case round =>
        clear hJ0 hW hS
        obtain ⟨j, T2, rfl, hJ, hW, hS⟩ := hrel
        obtain ⟨l1, l2, l3, l4⟩ := hJ.len
        have hT2 : Hid (T2.length = L) := by have h1 := hJ.tlen; have h2 := hl0.out; unfold Hid; omega
        have l5 : j < L := by have := hT2.out; omega
        by_cases hj : a < j
        · have j1 : (a : Int) < (j : Int) := by omega
          obtain ⟨m, rfl⟩ : ∃ m, j = m + 1 := ⟨j - 1, by omega⟩
          replace j1 : (a : Int) < (m : Int) + 1 := by omega
          obtain ⟨a0, a1, a2⟩ := rw_at hW l2
          obtain ⟨b0, b1, b2⟩ := rw_at hW (i := m) (by omega)
          rw [l3] at a0 a1 a2
          have hm1 : m < T2.length := by omega
          by_cases hk : x.nTil < (atT T2 m).nTil
          · have HD := Lib.hid (hJ.down hj (by rw [Nat.add_sub_cancel]; exact hk))
            rw [Nat.add_sub_cancel] at HD
            have HR := Lib.hid (And.intro hW hS)
            obtain ⟨E, hE⟩ : ∃ E, cmpI x.nTil (atT T2 m).nTil = E := ⟨_, rfl⟩
            have hE0 : E < 0 := by rw [← hE, cmpI_neg]; exact hk
            have hc := Lib.hid (fun W => cmp_any x.nEnv x.nFrm x.nTil (atT T2 m).nEnv (atT T2 m).nFrm (atT T2 m).nTil W)
            rw [hE] at hc
            clear hE hk hJ hW hS
            go_wp2_with fail
            (have aft_a0 := Aft.cell a0; have aft_a1 := Aft.cell a1; have aft_a2 := Aft.cell a2; have aft_b0 := Aft.cell b0; have aft_b1 := Aft.cell b1; have aft_b2 := Aft.cell b2; refine wp_region_aft (by kernel_rfl) (by kernel_rfl) ?_; (repeat (go_big_quiet_step ((go_at_call 19; with_reducible exact aft_call (hc.out _))))); refine wpQuiet_nil ?_; clear aft_a0 aft_a1 aft_a2 aft_b0 aft_b1 aft_b2; intro w5 hw2_; have hb5 := Aft.below hw2_; clear hw2_)
            replace hW := HR.out.1.keep hb5
            replace hS := HR.out.2.below hb5
            clear a0 a1 a2 b0 b1 b2 hc hb5
            rw [← l3] at HD
            obtain ⟨a0, a1, a2⟩ := rw_at hW l2
            obtain ⟨b0, b1, b2⟩ := rw_at hW hm1
            have HT1 : Hid (∀ z, (w5.drewN z).there q ((m + 1) * 3) 3) := fun z => own_there (hW.drewN z) (Nat.lt_of_lt_of_le l2 hW.cap)
            have HT2 : Hid (∀ z, ((w5.drewN z).setCells q ((m + 1) * 3) (eNt (atT T2 m))).there q (m * 3) 3) := fun z => World.there_setCells (own_there (hW.drewN z) (Nat.lt_of_lt_of_le hm1 hW.cap)) _ _ _
            have hsw := fun z => rw_swp (hW.drewN z) l2 hm1
            simp only [l3] at hsw
            have HSW := Lib.hid hsw
            have HW := Lib.hid (And.intro hW hS)
            clear hW hS HR hsw
            go_wp2_with fail
            refine wp_region_chain [15, 17] 53 (by kernel_rfl) (by kernel_rfl) (by rfl) ?_
            repeat (first | (refine ch_row (by rfl) ?_; (try simp only [Act.put, List.setIfInBounds_toArray, List.set_cons_zero, List.set_cons_succ])) | (refine ch_free (by rfl) (by rfl) (by rfl) (fun K hK => ?_); go_big_quiet_op; refine hK _ ?_; clear hK K) | (refine ch_read (by rfl) (by rfl) (by rfl) (fun K hK => ?_); go_big_quiet_op; refine hK _ ?_; clear hK K) | (refine ch_no (by rfl) (by rfl) ?_; (try simp only [Act.put, List.setIfInBounds_toArray, List.set_cons_zero, List.set_cons_succ])))
            refine ch_end ?_
            intro nd
            simp only [List.filterMap_cons, List.filterMap_nil, List.getElem?_cons_succ, List.getElem?_cons_zero]
            refine wpList_store_mid rfl 39 _ _ rfl q ((m + 1) * 3) (eNt (atT T2 m)).toArray rfl rfl (HT1.out nd) (eNt_size _) (eNt_one _) ?_
            refine wpList_store_mid rfl 39 _ _ rfl q (m * 3) (eNt x).toArray rfl rfl (HT2.out nd) (eNt_size _) (eNt_one _) ?_
            refine only_end ?_
            simp only [Act.put]
            refine at_world (F := Exit.inBlock _ _ _ _) (fun W => Rw B W q c (swp T2 (m + 1) m) ∧ Sw q w W) ⟨(HSW.out nd).1, (HW.out.2.drewN nd).trans (HSW.out nd).2⟩ ?_
            rintro w6 ⟨hW6, hS6⟩
            clear a0 a1 a2 b0 b1 b2 HW HT1 HT2 HSW
            go_wp2_with fail
            go_roundw
            case rel => exact ⟨m, _, by go_num, by rw [l3] at HD; exact HD.out, hW6, hS6⟩
            case measure => simp [intOf]
          · have HR := Lib.hid (And.intro hW hS)
            obtain ⟨E, hE⟩ : ∃ E, cmpI x.nTil (atT T2 m).nTil = E := ⟨_, rfl⟩
            have hE0 : ¬ E < 0 := by rw [← hE, cmpI_neg]; exact hk
            have hc := Lib.hid (fun W => cmp_any x.nEnv x.nFrm x.nTil (atT T2 m).nEnv (atT T2 m).nFrm (atT T2 m).nTil W)
            rw [hE] at hc
            have HK : Hid (a = m + 1 ∨ ¬ x.nTil < (atT T2 (m + 1 - 1)).nTil) := .inr (by rw [Nat.add_sub_cancel]; exact hk)
            obtain ⟨B'', e1, e2, e3⟩ := hJ.stop HI.out.s HTG.out HK.out
            have HN := Lib.hid (HNX.out B'' e2 e3)
            rw [← e1] at HN
            clear hE hk e1 e2 e3 hJ hW hS HK
            go_wp2_with fail
            (have aft_a0 := Aft.cell a0; have aft_a1 := Aft.cell a1; have aft_a2 := Aft.cell a2; have aft_b0 := Aft.cell b0; have aft_b1 := Aft.cell b1; have aft_b2 := Aft.cell b2; refine wp_region_aft (by kernel_rfl) (by kernel_rfl) ?_; (repeat (go_big_quiet_step ((go_at_call 19; with_reducible exact aft_call (hc.out _))))); refine wpQuiet_nil ?_; clear aft_a0 aft_a1 aft_a2 aft_b0 aft_b1 aft_b2; intro w5 hw2_; have hb5 := Aft.below hw2_; clear hw2_)
            replace hW := HR.out.1.keep hb5
            replace hS := HR.out.2.below hb5
            clear a0 a1 a2 b0 b1 b2 hc hb5 HR
            go_wp2_with fail
            go_roundw
            case rel => exact ⟨i + 1, B'', T2, by go_num, by omega, HN.out, hW, hS⟩
            case measure => simp [intOf]; omega
        · obtain rfl : a = j := by omega
          obtain ⟨B'', e1, e2, e3⟩ := hJ.stop HI.out.s HTG.out (.inl rfl)
          have HN := Lib.hid (HNX.out B'' e2 e3)
          rw [← e1] at HN
          have HR := Lib.hid (And.intro hW hS)
          clear e1 e2 e3 hJ hW hS
          go_wp2_with fail
          (refine wp_region_aft (by kernel_rfl) (by kernel_rfl) ?_; (repeat (go_big_quiet_step ((go_at_call 19; with_reducible exact aft_call ((fun W => cmp_any 0 0 0 0 0 0 W) _))))); refine wpQuiet_nil ?_; intro w5 hw2_; have hb5 := Aft.below hw2_; clear hw2_)
          replace hW := HR.out.1.keep hb5
          replace hS := HR.out.2.below hb5
          clear hb5 HR
          go_wp2_with fail
          go_roundw
          case rel => exact ⟨i + 1, B'', T2, by go_num, by omega, HN.out, hW, hS⟩
          case measure => simp [intOf]; omega
    · have k1 : ¬ (i : Int) < (b : Int) := by omega
      go_wp2_with fail
      go_end0
      refine ⟨rfl, ⟨_, hW, ?_⟩, hS⟩
      rw [← HX.out, ← hT0.out]
      exact hI.done (by have := HX.out; omega)
end Go.Proofs.Ytdfklbjkcednhaa
