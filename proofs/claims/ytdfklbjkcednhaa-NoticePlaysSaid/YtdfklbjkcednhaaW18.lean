/- Walks: the document's Over. -/
import Derived.Test.YtdfklbjkcednhaaX1
namespace Go.Proofs.Ytdfklbjkcednhaa
open Go.RowKit Go.Lib

def ovL (L : List Nt) (now : Int) (k : Nat) : List Nt := (L.take k).filter fun x => decide (now < x.nTil)
def ovF (L : List Nt) (now : Int) (k : Nat) : List Nt := (L.take k).filter fun x => decide (x.nTil ≤ now)
theorem take_one {L : List Nt} {k : Nat} (hk : k < L.length) : L.take (k + 1) = L.take k ++ [L[k]] := by rw [List.take_add_one]; simp [hk]
theorem ovL_no {L : List Nt} {now : Int} {k : Nat} (hk : k < L.length) (h : L[k].nTil ≤ now) : ovL L now (k + 1) = ovL L now k ∧ ovF L now (k + 1) = ovF L now k ++ [L[k]] := by
  unfold ovL ovF
  rw [take_one hk, List.filter_append, List.filter_append]
  simp [h, show ¬ now < L[k].nTil by omega]
theorem ovL_yes {L : List Nt} {now : Int} {k : Nat} (hk : k < L.length) (h : now < L[k].nTil) : ovL L now (k + 1) = ovL L now k ++ [L[k]] ∧ ovF L now (k + 1) = ovF L now k := by
  unfold ovL ovF
  rw [take_one hk, List.filter_append, List.filter_append]
  simp [h, show ¬ L[k].nTil ≤ now by omega]
/-- those that are over, sorted -/
structure Ov (F X : List Nt) : Prop where
  s : Srt X
  p : X.Perm (retag 0 F)
theorem Ov.len {F X : List Nt} (h : Ov F X) : X.length = F.length := by rw [h.p.length_eq, retag_len]
theorem Ov.ins {F X : List Nt} (h : Ov F X) (x : Nt) {k : Nat} (h1 : ∀ y ∈ X.drop k, x.nTil < y.nTil) (h2 : k = 0 ∨ ∃ p, ∃ hp : p < X.length, p + 1 = k ∧ ¬ x.nTil < X[p].nTil) : Ov (F ++ [x]) (X.take k ++ ⟨x.nEnv, x.nFrm, x.nTil, F.length⟩ :: X.drop k) := by
  refine ⟨ins_srt h.s (fun y hy => ?_) h1 h2, ins_perm.trans ?_⟩
  · have := retag_lt (h.p.mem_iff.1 hy)
    simpa using this
  · rw [retag_append, Nat.zero_add]
    exact h.p.append_right _

/-- what the slots of the region hold that puts a notice between the others -/
def OneS (y : Nt) (v : Value) (w : World) : Prop := ∃ G, v = .slice (some ⟨G, 0, none⟩) 1 1 ∧ Sl eNt 3 w (some ⟨G, 0, none⟩) [y]
theorem OneS.keep {y : Nt} {v : Value} {w w' : World} (h : OneS y v w) (hz : Keeps w w') : OneS y v w' := by obtain ⟨G, h1, h2⟩ := h; exact ⟨G, h1, h2.keep hz⟩
def OvS (wb : World) (m : Nat) (l : List Nt) (y : Nt) (d : Nat) (v : Value) (w : World) : Prop := if d = 50 then EmptyS wb v w else if d = 54 then AnewS wb m l v w else OneS y v w
theorem ov50 {wb : World} {m : Nat} {l : List Nt} {y : Nt} {v : Value} {w : World} : OvS wb m l y 50 v w ↔ EmptyS wb v w := by simp [OvS]
theorem ov54 {wb : World} {m : Nat} {l : List Nt} {y : Nt} {v : Value} {w : World} : OvS wb m l y 54 v w ↔ AnewS wb m l v w := by simp [OvS]
theorem ov56 {wb : World} {m : Nat} {l : List Nt} {y : Nt} {v : Value} {w : World} : OvS wb m l y 56 v w ↔ OneS y v w := by simp [OvS]
theorem OvS.keep {wb : World} {m : Nat} {l : List Nt} {y : Nt} {d : Nat} {v : Value} {w w' : World} (h : OvS wb m l y d v w) (hz : Keeps w w') : OvS wb m l y d v w' := by
  unfold OvS at *
  by_cases h1 : d = 50
  · simp only [h1, if_true] at h ⊢; exact EmptyS.keep h hz
  · by_cases h2 : d = 54
    · simp only [h2] at h ⊢; exact AnewS.keep h hz
    · simp only [h1, h2, if_false] at h ⊢; exact OneS.keep h hz
theorem wpList_assign {P : Program} {ops : Array Oper} {rest : List Oper} {o : Oper} {a : Act} {Q : Exit → Act → World → Prop} (w : World) (hgd : o.guard = none) (x : Operand) (ho : o.op = .assign x) (v : Value) (hx : a.eval x = v)
    (h : wpList P ops Q rest (a.put o.dst v) w) : wpList P ops Q (o :: rest) a w :=
  wpList_plain hgd fun _ hK => by
    unfold Oper.wp execOp
    simp only [ho, hx]
    exact hK _ _ h

set_option maxRecDepth 100000 in
set_option maxHeartbeats 8000000 in
theorem rover_any (x : Rd) (now : Int) (w : World) (h : RdOk w x) (hl : x.rL.length ≤ 500) (hE : ∀ y ∈ x.rL, 0 ≤ y.nEnv ∧ y.nEnv < 8) :
    Calls Try.prog 10 #[.agg (eRd x).toArray, .int .i64 now] w fun e w' => ∃ (O : Option Addr) (d : Nat) (T : List Nt) (x' : Rd), e = .returned (.tuple #[.agg (eRd x').toArray, .slice O T.length d]) ∧ Sl eNt 3 w' O T ∧ (∀ q, blk O = some q → ∃ cs, Blk w' q 64 cs) ∧ Ov (ovF x.rL now x.rL.length) T ∧ RdOk w' x' ∧ x'.rL = ovL x.rL now x.rL.length ∧ x'.rT.map Td.tV = T.foldl putD (x.rT.map Td.tV) ∧ Below w.heap.size w w' := by
  obtain ⟨b0, b1, hB⟩ := rd_boxes x w h _ rfl
  have hz := zero_rd
  have hlen := eRd_len h
  have HR := Lib.hid h
  have HE := Lib.hid hE
  obtain ⟨n, hn⟩ : ∃ n, n = x.rL.length := ⟨_, rfl⟩
  have hn5 : n ≤ 500 := by omega
  have HN := Lib.hid hn
  obtain ⟨M, hM⟩ : ∃ M, M = eRd x := ⟨_, rfl⟩
  rw [← hM] at b0 b1 hB hlen ⊢
  have h0 : M[0]? = some (.slice x.rA n x.rC) := by rw [hM, hn]; rfl
  have HM := Lib.hid (And.intro hM h0)
  have HX := Lib.hid (And.intro b0 (And.intro b1 (And.intro (rd_info M hlen) (show zeroRd.size = M.length by rw [hlen]; rfl))))
  have HB := Lib.hid hB
  have HI := Lib.hid (show (Try.prog.info? 64).map (·.size) = some 3 by kernel_rfl)
  clear b0 b1 hB hlen h hl hn hM h0 hE
  go_enter Try.func10, Try.ntmps10
  go_wp2_with fail
  generalize hwb : (w.alloc (Obj.cells M.toArray 47)).alloc (Obj.cells zeroRd 47) = wb at *
  have hwz : wb.heap.size = w.heap.size + 2 := by rw [← hwb]; simp
  have HZ := Lib.hid hwz
  have c0 := HX.out.1.cell 0 (.slice x.rA n x.rC) (by rw [List.getElem?_toArray]; exact HM.out.2)
  have hsl := HR.out.sl.keep HB.out
  have HS := Lib.hid (And.intro c0 hsl)
  clear hwb c0 hsl hwz
  go_loopw [6, 7, 8] (fun v6 v7 v8 wr => ∃ (k a b : Nat) (X Y : List Nt) (O R : Option Addr) (dO dR : Nat), v8 = .int .i64 k ∧ v6 = .slice O a dO ∧ v7 = .slice R b dR ∧ k ≤ n ∧ a ≤ k ∧ b ≤ k ∧ Hid (X.length = a ∧ Y.length = b) ∧ Hid (Ov (ovF x.rL now k) X) ∧ Hid (Y = ovL x.rL now k) ∧ Own eNt 3 wr wb.heap.size 64 O dO X ∧ Own eNt 3 wr wb.heap.size 64 R dR Y ∧ Hid (∀ q, blk O = some q → blk R ≠ some q) ∧ Below wb.heap.size wb wr) (fun _ _ v8 _ => n - (intOf v8).toNat)
  case atStart => exact ⟨0, 0, 0, [], [], none, none, 0, 0, rfl, rfl, rfl, Nat.zero_le _, Nat.le_refl _, Nat.le_refl _, ⟨rfl, rfl⟩, ⟨List.Pairwise.nil, List.Perm.refl _⟩, rfl, Own.nil _ _ _, Own.nil _ _ _, (fun q h => by simp [blk] at h), Below.refl _ _⟩
  case round =>
    obtain ⟨k, a, b, X, Y, O, R, dO, dR, rfl, rfl, rfl, hk, hx, hy, HLn, hX, hY, hO, hR, hap, hB⟩ := hrel
    have hws := hB.size
    have c0 := kcell hB HS.out.1
    by_cases hlt : k < n
    · have hkL : k < x.rL.length := by have := HN.out; omega
      have hkL2 := (HS.out.2.keep hB).nt_at hkL
      obtain ⟨bq, off, hA, y0, y1, y2⟩ := hkL2
      rw [hA] at c0
      have k0 : (0 : Int) ≤ (k : Int) := by omega
      have k1 : (k : Int) < (n : Int) := by omega
      have HT1 := Lib.hid (fun h => ovL_no (now := now) hkL h)
      have HT2 := Lib.hid (fun h => ovL_yes (now := now) hkL h)
      clear hA
      generalize x.rL[k] = y at *
      have HY := Lib.hid (show ∀ v ∈ [Value.int .i64 y.nEnv, .int .i64 y.nFrm, .int .i64 y.nTil], v.oneCell' = true by intro v hv; simp at hv; rcases hv with rfl | rfl | rfl <;> rfl)
      by_cases ht : now < y.nTil
      · obtain ⟨H1, H2⟩ := HT2.out ht
        have HH := Lib.hid (And.intro H1 H2)
        clear H1 H2 HT1 HT2
        go_wp2_with (first | (refine wpList_store_box wr 64 _ [.int .i64 y.nEnv, .int .i64 y.nFrm, .int .i64 y.nTil] rfl _ _ rfl rfl rfl rfl HI.out HY.out ?_; intro w3 b3 hb3 hz3; (have x0 := b3.cell 0 (.int .i64 y.nEnv) rfl); (have x1 := b3.cell 1 (.int .i64 y.nFrm) rfl); (have x2 := b3.cell 2 (.int .i64 y.nTil) rfl); (have c03 := kcell hb3 c0); (have H3 := Lib.hid (And.intro b3 (And.intro hb3 hz3))); clear b3 hb3 hz3) | (at_builtin; refine wpList_append_sl _ rfl (.tmp 29) (.tmp 31) rfl elRN eNt_ok ((hR.keep H3.out.2.1).alloc _) (n := b) HLn.out.2 rfl (m := 1) rfl (ys := [y]) rfl (Sl.new eNt_ok w3 y _ rfl _) (by simp only [maxLen]; omega) (by omega) (by have := H3.out.2.1.size; simp; omega) _ rfl (b + 1) rfl ?_; intro A5 c5 w6 own6 hg6 at6; (have HW := Lib.hid (And.intro own6 (And.intro hg6 at6))); clear own6 hg6 at6))
        go_roundw
        case rel =>
          refine ⟨k + 1, a, b + 1, X, Y ++ [y], O, A5, dO, c5, by go_num, rfl, rfl, by omega, by omega, by omega, ⟨HLn.out.1, by rw [List.length_append, HLn.out.2]; rfl⟩, by rw [HH.out.2]; exact hX, by rw [HH.out.1, ← hY.out]; rfl, ?_, HW.out.1, ?_, ?_⟩
          · exact ((hO.keep H3.out.2.1).alloc _).kept HW.out.2.1 (by
              cases hb : blk O with
              | none => exact .inl rfl
              | some q => right; intro e; exact hap.out q hb e.symm)
          · intro q hq e
            rcases HW.out.2.2 with h5 | h5
            · exact hap.out q hq (h5 ▸ e)
            · rw [h5] at e
              injection e with e
              have := (hO.lt q hq).2
              have := H3.out.2.1.size
              simp at e
              omega
          · exact bgrow ((hB.trans (H3.out.2.1.mono hws)).alloc (by have := H3.out.2.1.size; omega) _) HW.out.2.1 (fun q hq => (hR.lt q hq).1)
        case measure => simp [intOf]; omega
      · have hle : y.nTil ≤ now := by omega
        obtain ⟨H1, H2⟩ := HT1.out hle
        have HH := Lib.hid (And.intro H1 H2)
        clear H1 H2 HT1 HT2 hle
        go_upto_region 8 with ((refine wpList_store_box wr 64 _ [.int .i64 y.nEnv, .int .i64 y.nFrm, .int .i64 y.nTil] rfl _ _ rfl rfl rfl rfl HI.out HY.out ?_; intro w3 b3 hb3 hz3; (have x0 := b3.cell 0 (.int .i64 y.nEnv) rfl); (have x1 := b3.cell 1 (.int .i64 y.nFrm) rfl); (have x2 := b3.cell 2 (.int .i64 y.nTil) rfl); (have c03 := kcell hb3 c0); (have H3 := Lib.hid (And.intro b3 (And.intro hb3 hz3))); clear b3 hb3 hz3))
        have hO3 := hO.keep H3.out.2.1
        have hR3 := hR.keep H3.out.2.1
        have HB3 := Lib.hid (And.intro (hB.trans (H3.out.2.1.mono hws)) (And.intro hR3 hO3))
        have hz3 : wb.heap.size ≤ w3.heap.size := by have := H3.out.2.1.size; omega
        clear hO hR hR3 hB hws H3 c03 y0 y1 y2 c0
        go_wp2_with fail
        go_loopw [10] (fun v10 wr => ∃ (j : Nat) (ji : Int), v10 = .int .i64 ji ∧ ji = j ∧ j ≤ a ∧ Hid (∀ z ∈ X.drop j, y.nTil < z.nTil) ∧ Below w3.heap.size w3 wr) (fun v10 _ => (intOf v10).toNat)
        case atStart => exact ⟨a, a, rfl, rfl, Nat.le_refl _, by rw [← HLn.out.1, List.drop_length]; exact fun z hz => absurd hz (List.not_mem_nil), Below.refl _ _⟩
        case round =>
          obtain ⟨j, ji, rfl, hji, hj, hJ, hb⟩ := hrel
          replace x0 := kcell hb x0
          replace x1 := kcell hb x1
          replace x2 := kcell hb x2
          have hO4 := hO3.keep hb
          cases j with
          | zero =>
            obtain rfl : ji = 0 := by omega
            clear hji
            rcases hO4.shape with ⟨h7, h8, h9⟩ | ⟨q, h7⟩
            · have HX0 : Hid (X.drop 0 = []) := by rw [h8]; rfl
              obtain rfl : a = 0 := by rw [← HLn.out.1, h8]; rfl
              subst h7 h9
              clear h8
              go_upto_region 9 with (fail)
              refine wp_region_grand (Keeps _) (fun _ => Keeps) [] (fun _ _ _ => True) [] [] 107 (keeps_drew _) (fun _ _ _ h hz => keeps_trans h hz) (fun _ d hd _ v w w' _ h hz => by cases hd) (by kernel_rfl) (by kernel_rfl) (by rfl) ?_
              repeat (first | (refine gr_row (by rfl) ?_; (try simp only [Act.put, List.setIfInBounds_toArray, List.set_cons_zero, List.set_cons_succ])) | (refine gr_free (by rfl) (by rfl) (by rfl) (by rfl) (by rfl) (fun K hK => ?_); go_big_quiet_op; refine hK _ ?_; clear hK K) | (refine gr_q (by rfl) (by rfl) (by rfl) (by rfl) (by rfl) (by rfl) (fun K hK => ?_); go_big_quiet_op; refine hK _ ?_; clear hK K) | (refine gr_no (by rfl) (by rfl) (by rfl) ?_; (try simp only [Act.put, List.setIfInBounds_toArray, List.set_cons_zero, List.set_cons_succ])) | (refine gr_call (by rfl) (by rfl) (by rfl) (by rfl) (by rfl) (fun K hK => ?_); go_simp; (try simp only [RUp, true_and]); first | (apply Exists.intro; refine ⟨fun n => rfl, hK _ ?_⟩; clear hK K; (try simp only [Act.put, List.setIfInBounds_toArray, List.set_cons_zero, List.set_cons_succ]))))
              refine gr_end ?_
              intro γ w9 hb9 hT
              simp only [putG, Act.put, List.setIfInBounds_toArray, List.set_cons_zero, List.set_cons_succ]
              refine only_end ?_
              have hb4 := bstep hb (Nat.le_refl _) hb9
              replace x0 := kcell hb9 x0
              replace x1 := kcell hb9 x1
              replace x2 := kcell hb9 x2
              have hO9 := hO4.keep hb9
              have hR9 := HB3.out.2.1.keep hb4
              clear hO3 hO4
              go_upto_region 11 with (fail)
              have hcap := hO9.cap
              rw [HLn.out.1] at hcap
              have q0 : (0 : Int) ≤ (0 : Int) := by omega
              have q1 : (0 : Int) ≤ ((0 : Nat) : Int) := by omega
              have q2 : (0 : Int) ≤ (0 : Int) := by omega
              have q3 : (0 : Int) ≤ ((0 : Nat) : Int) := by omega
              have q4 : 0 ≤ (0 : Nat) := by omega
              have q5 : 0 ≤ 0 := by omega
              have HTk := Lib.hid (show (X.take (0)).length = 0 by rw [List.length_take, HLn.out.1]; omega)
              have h1 := (hO9.sl eNt_ok).take (0)
              have HS16 : Hid (∀ W : World, Below w9.heap.size w9 W → EmptyS w9 (.slice (some ⟨W.heap.size, 0, none⟩) 0 0) (W.alloc (.cells #[] 64))) := fun W h => ⟨_, rfl, h.size, Own.empty W _ h.size⟩
              obtain ⟨y9, hy9⟩ : ∃ y9 : Nt, y9 = ⟨y.nEnv, y.nFrm, y.nTil, (ovF x.rL now k).length⟩ := ⟨_, rfl⟩
              have HYE := Lib.hid hy9
              have HY9 : Hid (∀ (W : World) t, Sl eNt 3 (W.alloc (.cells #[.int .i64 y.nEnv, .int .i64 y.nFrm, .int .i64 y.nTil] t)) (some ⟨W.heap.size, 0, none⟩) [y9]) := fun W t => Sl.new eNt_ok W y9 _ (by rw [hy9]; rfl) t
              clear hy9
              have aft_x0 := cw_cell x0
              have aft_x1 := cw_cell x1
              have aft_x2 := cw_cell x2
              refine wp_region_grand_last (Keeps _) (fun _ => Keeps) [50, 54, 56] (OvS w9 (0) (X.take (0)) y9) [7, 11] [[7, 4, 0], [7, 6, 5]] 107 (keeps_drew _) (fun _ _ _ h hz => keeps_trans h hz) (fun _ d hd _ v w w' _ h hz => h.keep hz) (by kernel_rfl) (by kernel_rfl) (by kernel_rfl) (by rfl) ?_
              intro l_ o_ hl_ ho_
              simp only [List.dropLast] at hl_
              simp only [List.getLast?_cons_cons, List.getLast?_singleton, Option.some.injEq] at ho_
              subst hl_ ho_
              repeat (first | (refine gr_row (by rfl) ?_; (try simp only [Act.put, List.setIfInBounds_toArray, List.set_cons_zero, List.set_cons_succ])) | (refine gr_free (by rfl) (by rfl) (by rfl) (by rfl) (by rfl) (fun K hK => ?_); go_big_quiet_op; refine hK _ ?_; clear hK K) | (refine gr_q (by rfl) (by rfl) (by rfl) (by rfl) (by rfl) (by rfl) (fun K hK => ?_); go_big_quiet_op; refine hK _ ?_; clear hK K) | (refine gr_no (by rfl) (by rfl) (by rfl) ?_; (try simp only [Act.put, List.setIfInBounds_toArray, List.set_cons_zero, List.set_cons_succ])) | (refine gr_call (by rfl) (by rfl) (by rfl) (by rfl) (by rfl) (fun K hK => ?_); go_simp; (try simp only [RUp, true_and]); first | (apply Exists.intro; refine ⟨fun n => rfl, hK _ ?_⟩; clear hK K; (try simp only [Act.put, List.setIfInBounds_toArray, List.set_cons_zero, List.set_cons_succ]))) | (refine gr_n 50 [] (by rfl) (by rfl) (by rfl) (by rfl) (fun γ w hC hT => ?_) ?_; (simp only [putG]; go_simp; exact gup_v (below1 w _) (ov50.2 (HS16.out w hC))); (try simp only [Act.put, List.setIfInBounds_toArray, List.set_cons_zero, List.set_cons_succ])) | (refine gr_n 54 [50] (by rfl) (by rfl) (by rfl) (by rfl) (fun γ w hC hT => ?_) ?_; ((obtain ⟨G, hv, hG, hO⟩ := ov50.1 (hT 50 (by simp))); refine gup_append_fresh w (.tmp 50) (.tmp 53) rfl elRN eNt_ok hO (by simp only [putG, Act.put, List.setIfInBounds_toArray, List.set_cons_zero, List.set_cons_succ]; rw [hv]; rfl) (by rfl) (m := 0) (ys := X.take (0)) HTk.out (Sl.keep (w := w9) h1 hC) (by simp only [maxLen]; omega) (by omega) (Below.size hC) (fun A1 e1 w1 h => ov54.2 ⟨A1, e1, rfl, h⟩)); (try simp only [Act.put, List.setIfInBounds_toArray, List.set_cons_zero, List.set_cons_succ])) | (refine gr_n 56 [] (by rfl) (by rfl) (by rfl) (by rfl) (fun γ w hC hT => ?_) ?_; (simp only [putG]; go_simp; exact gup_v (below1 w _) (ov56.2 ⟨_, rfl, HY9.out w _⟩)); (try simp only [Act.put, List.setIfInBounds_toArray, List.set_cons_zero, List.set_cons_succ])))
              refine gr_end ?_
              intro γ w5 hb5 hT
              clear aft_x0 aft_x1 aft_x2
              simp only [putG, Act.put, List.setIfInBounds_toArray, List.set_cons_zero, List.set_cons_succ]
              simp only [List.filterMap_cons, List.filterMap_nil, List.getElem?_cons_succ, List.getElem?_cons_zero]
              obtain ⟨A1, e1, g54, own1⟩ := ov54.1 (hT 54 (by simp))
              obtain ⟨G2, g56, sl1⟩ := ov56.1 (hT 56 (by simp))
              rw [g54, g56]
              clear g54 g56 hT HS16 h1 x0 x1 x2
              refine wpList_append_sl w5 rfl (.tmp 54) (.tmp 56) rfl elRN eNt_ok (base := w9.heap.size) (xs := X.take (0)) own1 (n := 0) HTk.out rfl (m := 1) rfl (ys := [y9]) rfl sl1 (by simp only [maxLen]; omega) (by omega) (Below.size hb5) _ rfl (0 + 1) rfl ?_
              intro A2 e2 w6 own2 hg6 at6
              have hB6 : Below w9.heap.size w9 w6 := bgrow hb5 hg6 (fun q hq => (own1.lt q hq).1)
              refine wpList_append_sl w6 rfl (.tmp 57) (.tmp 60) rfl elRN eNt_ok (base := w9.heap.size) own2 (n := 0 + 1) (by rw [List.length_append, HTk.out] <;> rfl) rfl (m := 0 - (0)) (by rfl) (ys := X.drop (0)) (by rw [List.length_drop, HLn.out.1] <;> omega) (by rw [HX0.out]; exact Sl.empty_at) (by simp only [maxLen]; omega) (by omega) (Below.size hB6) _ rfl (0 + 1) (by omega) ?_
              intro A3 e3 w7 own3 hg7 at7
              have hB7 : Below w9.heap.size w9 w7 := bgrow hB6 hg7 (fun q hq => (own2.lt q hq).1)
              refine only_end ?_
              refine then_assign (.tmp 61) rfl (.slice A3 (0 + 1) e3) rfl ?_
              simp only [Act.put, List.setIfInBounds_toArray, List.set_cons_zero, List.set_cons_succ]
              have HW := Lib.hid (And.intro own3 hB7)
              clear own1 own2 own3 hg6 hg7 at6 at7 hB6 hB7 hb5 sl1
              go_wp2_with fail
              go_roundw
              case rel =>
                have hbw : wb.heap.size ≤ w9.heap.size := Nat.le_trans hz3 hb4.size
                refine ⟨k + 1, 0 + 1, b, X.take (0) ++ y9 :: X.drop (0), Y, A3, R, e3, dR, by go_num, rfl, rfl, by omega, by omega, by omega, ⟨?_, HLn.out.2⟩, ?_, by rw [HH.out.1]; exact hY.out, ?_, hR9.keep HW.out.2, ?_, ?_⟩
                · rw [List.length_append, HTk.out, List.length_cons, List.length_drop, HLn.out.1] <;> omega
                · rw [HH.out.2, HYE.out]; exact hX.out.ins y hJ.out (.inl rfl)
                · have := HW.out.1.from_ hbw
                  rw [List.append_assoc] at this
                  exact this
                · intro q hq e
                  have := (HW.out.1.lt q hq).1
                  have := (hR9.lt q e).2
                  omega
                · exact (HB3.out.1.trans (hb4.mono hz3)).trans (HW.out.2.mono hbw)
              case measure => simp [intOf]; omega
            · subst h7
              by_cases hce : dO = 0
              · obtain rfl : a = 0 := by have := hO4.cap; rw [HLn.out.1] at this; omega
                subst hce
                have HX0 : Hid (X.drop 0 = []) := by unfold Hid; rw [List.drop_zero]; exact List.eq_nil_of_length_eq_zero HLn.out.1
                go_upto_region 9 with (fail)
                refine wp_region_grand (Keeps _) (fun _ => Keeps) [] (fun _ _ _ => True) [] [] 107 (keeps_drew _) (fun _ _ _ h hz => keeps_trans h hz) (fun _ d hd _ v w w' _ h hz => by cases hd) (by kernel_rfl) (by kernel_rfl) (by rfl) ?_
                repeat (first | (refine gr_row (by rfl) ?_; (try simp only [Act.put, List.setIfInBounds_toArray, List.set_cons_zero, List.set_cons_succ])) | (refine gr_free (by rfl) (by rfl) (by rfl) (by rfl) (by rfl) (fun K hK => ?_); go_big_quiet_op; refine hK _ ?_; clear hK K) | (refine gr_q (by rfl) (by rfl) (by rfl) (by rfl) (by rfl) (by rfl) (fun K hK => ?_); go_big_quiet_op; refine hK _ ?_; clear hK K) | (refine gr_no (by rfl) (by rfl) (by rfl) ?_; (try simp only [Act.put, List.setIfInBounds_toArray, List.set_cons_zero, List.set_cons_succ])) | (refine gr_call (by rfl) (by rfl) (by rfl) (by rfl) (by rfl) (fun K hK => ?_); go_simp; (try simp only [RUp, true_and]); first | (apply Exists.intro; refine ⟨fun n => rfl, hK _ ?_⟩; clear hK K; (try simp only [Act.put, List.setIfInBounds_toArray, List.set_cons_zero, List.set_cons_succ]))))
                refine gr_end ?_
                intro γ w9 hb9 hT
                simp only [putG, Act.put, List.setIfInBounds_toArray, List.set_cons_zero, List.set_cons_succ]
                refine only_end ?_
                have hb4 := bstep hb (Nat.le_refl _) hb9
                replace x0 := kcell hb9 x0
                replace x1 := kcell hb9 x1
                replace x2 := kcell hb9 x2
                have hO9 := hO4.keep hb9
                have hR9 := HB3.out.2.1.keep hb4
                clear hO3 hO4
                go_upto_region 11 with (fail)
                have hcap := hO9.cap
                rw [HLn.out.1] at hcap
                have q0 : (0 : Int) ≤ (0 : Int) := by omega
                have q1 : (0 : Int) ≤ ((0 : Nat) : Int) := by omega
                have q2 : (0 : Int) ≤ (0 : Int) := by omega
                have q3 : (0 : Int) ≤ ((0 : Nat) : Int) := by omega
                have q4 : 0 ≤ (0 : Nat) := by omega
                have q5 : 0 ≤ 0 := by omega
                have HTk := Lib.hid (show (X.take (0)).length = 0 by rw [List.length_take, HLn.out.1]; omega)
                have h1 := (hO9.sl eNt_ok).take (0)
                have HS16 : Hid (∀ W : World, Below w9.heap.size w9 W → EmptyS w9 (.slice (some ⟨W.heap.size, 0, none⟩) 0 0) (W.alloc (.cells #[] 64))) := fun W h => ⟨_, rfl, h.size, Own.empty W _ h.size⟩
                obtain ⟨y9, hy9⟩ : ∃ y9 : Nt, y9 = ⟨y.nEnv, y.nFrm, y.nTil, (ovF x.rL now k).length⟩ := ⟨_, rfl⟩
                have HYE := Lib.hid hy9
                have HY9 : Hid (∀ (W : World) t, Sl eNt 3 (W.alloc (.cells #[.int .i64 y.nEnv, .int .i64 y.nFrm, .int .i64 y.nTil] t)) (some ⟨W.heap.size, 0, none⟩) [y9]) := fun W t => Sl.new eNt_ok W y9 _ (by rw [hy9]; rfl) t
                clear hy9
                have aft_x0 := cw_cell x0
                have aft_x1 := cw_cell x1
                have aft_x2 := cw_cell x2
                refine wp_region_grand_last (Keeps _) (fun _ => Keeps) [50, 54, 56] (OvS w9 (0) (X.take (0)) y9) [7, 11] [[7, 4, 0], [7, 6, 5]] 107 (keeps_drew _) (fun _ _ _ h hz => keeps_trans h hz) (fun _ d hd _ v w w' _ h hz => h.keep hz) (by kernel_rfl) (by kernel_rfl) (by kernel_rfl) (by rfl) ?_
                intro l_ o_ hl_ ho_
                simp only [List.dropLast] at hl_
                simp only [List.getLast?_cons_cons, List.getLast?_singleton, Option.some.injEq] at ho_
                subst hl_ ho_
                repeat (first | (refine gr_row (by rfl) ?_; (try simp only [Act.put, List.setIfInBounds_toArray, List.set_cons_zero, List.set_cons_succ])) | (refine gr_free (by rfl) (by rfl) (by rfl) (by rfl) (by rfl) (fun K hK => ?_); go_big_quiet_op; refine hK _ ?_; clear hK K) | (refine gr_q (by rfl) (by rfl) (by rfl) (by rfl) (by rfl) (by rfl) (fun K hK => ?_); go_big_quiet_op; refine hK _ ?_; clear hK K) | (refine gr_no (by rfl) (by rfl) (by rfl) ?_; (try simp only [Act.put, List.setIfInBounds_toArray, List.set_cons_zero, List.set_cons_succ])) | (refine gr_call (by rfl) (by rfl) (by rfl) (by rfl) (by rfl) (fun K hK => ?_); go_simp; (try simp only [RUp, true_and]); first | (apply Exists.intro; refine ⟨fun n => rfl, hK _ ?_⟩; clear hK K; (try simp only [Act.put, List.setIfInBounds_toArray, List.set_cons_zero, List.set_cons_succ]))) | (refine gr_n 50 [] (by rfl) (by rfl) (by rfl) (by rfl) (fun γ w hC hT => ?_) ?_; (simp only [putG]; go_simp; exact gup_v (below1 w _) (ov50.2 (HS16.out w hC))); (try simp only [Act.put, List.setIfInBounds_toArray, List.set_cons_zero, List.set_cons_succ])) | (refine gr_n 54 [50] (by rfl) (by rfl) (by rfl) (by rfl) (fun γ w hC hT => ?_) ?_; ((obtain ⟨G, hv, hG, hO⟩ := ov50.1 (hT 50 (by simp))); refine gup_append_fresh w (.tmp 50) (.tmp 53) rfl elRN eNt_ok hO (by simp only [putG, Act.put, List.setIfInBounds_toArray, List.set_cons_zero, List.set_cons_succ]; rw [hv]; rfl) (by rfl) (m := 0) (ys := X.take (0)) HTk.out (Sl.keep (w := w9) h1 hC) (by simp only [maxLen]; omega) (by omega) (Below.size hC) (fun A1 e1 w1 h => ov54.2 ⟨A1, e1, rfl, h⟩)); (try simp only [Act.put, List.setIfInBounds_toArray, List.set_cons_zero, List.set_cons_succ])) | (refine gr_n 56 [] (by rfl) (by rfl) (by rfl) (by rfl) (fun γ w hC hT => ?_) ?_; (simp only [putG]; go_simp; exact gup_v (below1 w _) (ov56.2 ⟨_, rfl, HY9.out w _⟩)); (try simp only [Act.put, List.setIfInBounds_toArray, List.set_cons_zero, List.set_cons_succ])))
                refine gr_end ?_
                intro γ w5 hb5 hT
                clear aft_x0 aft_x1 aft_x2
                simp only [putG, Act.put, List.setIfInBounds_toArray, List.set_cons_zero, List.set_cons_succ]
                simp only [List.filterMap_cons, List.filterMap_nil, List.getElem?_cons_succ, List.getElem?_cons_zero]
                obtain ⟨A1, e1, g54, own1⟩ := ov54.1 (hT 54 (by simp))
                obtain ⟨G2, g56, sl1⟩ := ov56.1 (hT 56 (by simp))
                rw [g54, g56]
                clear g54 g56 hT HS16 h1 x0 x1 x2
                refine wpList_append_sl w5 rfl (.tmp 54) (.tmp 56) rfl elRN eNt_ok (base := w9.heap.size) (xs := X.take (0)) own1 (n := 0) HTk.out rfl (m := 1) rfl (ys := [y9]) rfl sl1 (by simp only [maxLen]; omega) (by omega) (Below.size hb5) _ rfl (0 + 1) rfl ?_
                intro A2 e2 w6 own2 hg6 at6
                have hB6 : Below w9.heap.size w9 w6 := bgrow hb5 hg6 (fun q hq => (own1.lt q hq).1)
                refine wpList_append_sl w6 rfl (.tmp 57) (.tmp 60) rfl elRN eNt_ok (base := w9.heap.size) own2 (n := 0 + 1) (by rw [List.length_append, HTk.out] <;> rfl) rfl (m := 0 - (0)) (by rfl) (ys := X.drop (0)) (by rw [List.length_drop, HLn.out.1] <;> omega) (by rw [HX0.out]; exact Sl.empty_at) (by simp only [maxLen]; omega) (by omega) (Below.size hB6) _ rfl (0 + 1) (by omega) ?_
                intro A3 e3 w7 own3 hg7 at7
                have hB7 : Below w9.heap.size w9 w7 := bgrow hB6 hg7 (fun q hq => (own2.lt q hq).1)
                refine only_end ?_
                refine then_assign (.tmp 61) rfl (.slice A3 (0 + 1) e3) rfl ?_
                simp only [Act.put, List.setIfInBounds_toArray, List.set_cons_zero, List.set_cons_succ]
                have HW := Lib.hid (And.intro own3 hB7)
                clear own1 own2 own3 hg6 hg7 at6 at7 hB6 hB7 hb5 sl1
                go_wp2_with fail
                go_roundw
                case rel =>
                  have hbw : wb.heap.size ≤ w9.heap.size := Nat.le_trans hz3 hb4.size
                  refine ⟨k + 1, 0 + 1, b, X.take (0) ++ y9 :: X.drop (0), Y, A3, R, e3, dR, by go_num, rfl, rfl, by omega, by omega, by omega, ⟨?_, HLn.out.2⟩, ?_, by rw [HH.out.1]; exact hY.out, ?_, hR9.keep HW.out.2, ?_, ?_⟩
                  · rw [List.length_append, HTk.out, List.length_cons, List.length_drop, HLn.out.1] <;> omega
                  · rw [HH.out.2, HYE.out]; exact hX.out.ins y hJ.out (.inl rfl)
                  · have := HW.out.1.from_ hbw
                    rw [List.append_assoc] at this
                    exact this
                  · intro q hq e
                    have := (HW.out.1.lt q hq).1
                    have := (hR9.lt q e).2
                    omega
                  · exact (HB3.out.1.trans (hb4.mono hz3)).trans (HW.out.2.mono hbw)
                case measure => simp [intOf]; omega
              · go_upto_region 9 with (fail)
                refine wp_region_grand (Keeps _) (fun _ => Keeps) [] (fun _ _ _ => True) [] [] 107 (keeps_drew _) (fun _ _ _ h hz => keeps_trans h hz) (fun _ d hd _ v w w' _ h hz => by cases hd) (by kernel_rfl) (by kernel_rfl) (by rfl) ?_
                repeat (first | (refine gr_row (by rfl) ?_; (try simp only [Act.put, List.setIfInBounds_toArray, List.set_cons_zero, List.set_cons_succ])) | (refine gr_free (by rfl) (by rfl) (by rfl) (by rfl) (by rfl) (fun K hK => ?_); go_big_quiet_op; refine hK _ ?_; clear hK K) | (refine gr_q (by rfl) (by rfl) (by rfl) (by rfl) (by rfl) (by rfl) (fun K hK => ?_); go_big_quiet_op; refine hK _ ?_; clear hK K) | (refine gr_no (by rfl) (by rfl) (by rfl) ?_; (try simp only [Act.put, List.setIfInBounds_toArray, List.set_cons_zero, List.set_cons_succ])) | (refine gr_call (by rfl) (by rfl) (by rfl) (by rfl) (by rfl) (fun K hK => ?_); go_simp; (try simp only [RUp, true_and]); first | (apply Exists.intro; refine ⟨fun n => rfl, hK _ ?_⟩; clear hK K; (try simp only [Act.put, List.setIfInBounds_toArray, List.set_cons_zero, List.set_cons_succ]))))
                refine gr_end ?_
                intro γ w9 hb9 hT
                simp only [putG, Act.put, List.setIfInBounds_toArray, List.set_cons_zero, List.set_cons_succ]
                refine only_end ?_
                have hb4 := bstep hb (Nat.le_refl _) hb9
                replace x0 := kcell hb9 x0
                replace x1 := kcell hb9 x1
                replace x2 := kcell hb9 x2
                have hO9 := hO4.keep hb9
                have hR9 := HB3.out.2.1.keep hb4
                clear hO3 hO4
                go_upto_region 11 with (fail)
                have hcap := hO9.cap
                rw [HLn.out.1] at hcap
                have q0 : (0 : Int) ≤ (0 : Int) := by omega
                have q1 : (0 : Int) ≤ (dO : Int) := by omega
                have q2 : (0 : Int) ≤ (a : Int) := by omega
                have q3 : (a : Int) ≤ (dO : Int) := by omega
                have q4 : 0 ≤ dO := by omega
                have q5 : 0 ≤ a := by omega
                have HTk := Lib.hid (show (X.take (0)).length = 0 by rw [List.length_take, HLn.out.1]; omega)
                have h1 := (hO9.sl eNt_ok).take (0)
                have HS16 : Hid (∀ W : World, Below w9.heap.size w9 W → EmptyS w9 (.slice (some ⟨W.heap.size, 0, none⟩) 0 0) (W.alloc (.cells #[] 64))) := fun W h => ⟨_, rfl, h.size, Own.empty W _ h.size⟩
                obtain ⟨y9, hy9⟩ : ∃ y9 : Nt, y9 = ⟨y.nEnv, y.nFrm, y.nTil, (ovF x.rL now k).length⟩ := ⟨_, rfl⟩
                have HYE := Lib.hid hy9
                have HY9 : Hid (∀ (W : World) t, Sl eNt 3 (W.alloc (.cells #[.int .i64 y.nEnv, .int .i64 y.nFrm, .int .i64 y.nTil] t)) (some ⟨W.heap.size, 0, none⟩) [y9]) := fun W t => Sl.new eNt_ok W y9 _ (by rw [hy9]; rfl) t
                clear hy9
                have aft_x0 := cw_cell x0
                have aft_x1 := cw_cell x1
                have aft_x2 := cw_cell x2
                refine wp_region_grand_last (Keeps _) (fun _ => Keeps) [50, 54, 56] (OvS w9 (0) (X.take (0)) y9) [7, 11] [[7, 4, 0], [7, 6, 5]] 107 (keeps_drew _) (fun _ _ _ h hz => keeps_trans h hz) (fun _ d hd _ v w w' _ h hz => h.keep hz) (by kernel_rfl) (by kernel_rfl) (by kernel_rfl) (by rfl) ?_
                intro l_ o_ hl_ ho_
                simp only [List.dropLast] at hl_
                simp only [List.getLast?_cons_cons, List.getLast?_singleton, Option.some.injEq] at ho_
                subst hl_ ho_
                repeat (first | (refine gr_row (by rfl) ?_; (try simp only [Act.put, List.setIfInBounds_toArray, List.set_cons_zero, List.set_cons_succ])) | (refine gr_free (by rfl) (by rfl) (by rfl) (by rfl) (by rfl) (fun K hK => ?_); go_big_quiet_op; refine hK _ ?_; clear hK K) | (refine gr_q (by rfl) (by rfl) (by rfl) (by rfl) (by rfl) (by rfl) (fun K hK => ?_); go_big_quiet_op; refine hK _ ?_; clear hK K) | (refine gr_no (by rfl) (by rfl) (by rfl) ?_; (try simp only [Act.put, List.setIfInBounds_toArray, List.set_cons_zero, List.set_cons_succ])) | (refine gr_call (by rfl) (by rfl) (by rfl) (by rfl) (by rfl) (fun K hK => ?_); go_simp; (try simp only [RUp, true_and]); first | (apply Exists.intro; refine ⟨fun n => rfl, hK _ ?_⟩; clear hK K; (try simp only [Act.put, List.setIfInBounds_toArray, List.set_cons_zero, List.set_cons_succ]))) | (refine gr_n 50 [] (by rfl) (by rfl) (by rfl) (by rfl) (fun γ w hC hT => ?_) ?_; (simp only [putG]; go_simp; exact gup_v (below1 w _) (ov50.2 (HS16.out w hC))); (try simp only [Act.put, List.setIfInBounds_toArray, List.set_cons_zero, List.set_cons_succ])) | (refine gr_n 54 [50] (by rfl) (by rfl) (by rfl) (by rfl) (fun γ w hC hT => ?_) ?_; ((obtain ⟨G, hv, hG, hO⟩ := ov50.1 (hT 50 (by simp))); refine gup_append_fresh w (.tmp 50) (.tmp 53) rfl elRN eNt_ok hO (by simp only [putG, Act.put, List.setIfInBounds_toArray, List.set_cons_zero, List.set_cons_succ]; rw [hv]; rfl) (by rfl) (m := 0) (ys := X.take (0)) HTk.out (Sl.keep (w := w9) h1 hC) (by simp only [maxLen]; omega) (by omega) (Below.size hC) (fun A1 e1 w1 h => ov54.2 ⟨A1, e1, rfl, h⟩)); (try simp only [Act.put, List.setIfInBounds_toArray, List.set_cons_zero, List.set_cons_succ])) | (refine gr_n 56 [] (by rfl) (by rfl) (by rfl) (by rfl) (fun γ w hC hT => ?_) ?_; (simp only [putG]; go_simp; exact gup_v (below1 w _) (ov56.2 ⟨_, rfl, HY9.out w _⟩)); (try simp only [Act.put, List.setIfInBounds_toArray, List.set_cons_zero, List.set_cons_succ])))
                refine gr_end ?_
                intro γ w5 hb5 hT
                clear aft_x0 aft_x1 aft_x2
                simp only [putG, Act.put, List.setIfInBounds_toArray, List.set_cons_zero, List.set_cons_succ]
                simp only [List.filterMap_cons, List.filterMap_nil, List.getElem?_cons_succ, List.getElem?_cons_zero]
                obtain ⟨A1, e1, g54, own1⟩ := ov54.1 (hT 54 (by simp))
                obtain ⟨G2, g56, sl1⟩ := ov56.1 (hT 56 (by simp))
                rw [g54, g56]
                clear g54 g56 hT HS16 h1 x0 x1 x2
                refine wpList_append_sl w5 rfl (.tmp 54) (.tmp 56) rfl elRN eNt_ok (base := w9.heap.size) (xs := X.take (0)) own1 (n := 0) HTk.out rfl (m := 1) rfl (ys := [y9]) rfl sl1 (by simp only [maxLen]; omega) (by omega) (Below.size hb5) _ rfl (0 + 1) rfl ?_
                intro A2 e2 w6 own2 hg6 at6
                have hB6 : Below w9.heap.size w9 w6 := bgrow hb5 hg6 (fun q hq => (own1.lt q hq).1)
                refine wpList_append_sl w6 rfl (.tmp 57) (.tmp 60) rfl elRN eNt_ok (base := w9.heap.size) own2 (n := 0 + 1) (by rw [List.length_append, HTk.out] <;> rfl) rfl (m := a - (0)) (by rfl) (ys := X.drop (0)) (by rw [List.length_drop, HLn.out.1] <;> omega) (by rw [List.drop_zero]; exact (hO9.sl eNt_ok).keep hB6) (by simp only [maxLen]; omega) (by omega) (Below.size hB6) _ rfl (a + 1) (by omega) ?_
                intro A3 e3 w7 own3 hg7 at7
                have hB7 : Below w9.heap.size w9 w7 := bgrow hB6 hg7 (fun q hq => (own2.lt q hq).1)
                refine only_end ?_
                refine then_assign (.tmp 61) rfl (.slice A3 (a + 1) e3) rfl ?_
                simp only [Act.put, List.setIfInBounds_toArray, List.set_cons_zero, List.set_cons_succ]
                have HW := Lib.hid (And.intro own3 hB7)
                clear own1 own2 own3 hg6 hg7 at6 at7 hB6 hB7 hb5 sl1
                go_wp2_with fail
                go_roundw
                case rel =>
                  have hbw : wb.heap.size ≤ w9.heap.size := Nat.le_trans hz3 hb4.size
                  refine ⟨k + 1, a + 1, b, X.take (0) ++ y9 :: X.drop (0), Y, A3, R, e3, dR, by go_num, rfl, rfl, by omega, by omega, by omega, ⟨?_, HLn.out.2⟩, ?_, by rw [HH.out.1]; exact hY.out, ?_, hR9.keep HW.out.2, ?_, ?_⟩
                  · rw [List.length_append, HTk.out, List.length_cons, List.length_drop, HLn.out.1] <;> omega
                  · rw [HH.out.2, HYE.out]; exact hX.out.ins y hJ.out (.inl rfl)
                  · have := HW.out.1.from_ hbw
                    rw [List.append_assoc] at this
                    exact this
                  · intro q hq e
                    have := (HW.out.1.lt q hq).1
                    have := (hR9.lt q e).2
                    omega
                  · exact (HB3.out.1.trans (hb4.mono hz3)).trans (HW.out.2.mono hbw)
                case measure => simp [intOf]; omega
          | succ p =>
            have hpX : p < X.length := by have := HLn.out.1; omega
            obtain ⟨b2, off2, hA2, z0, z1, z2⟩ := (hO4.sl eNt_ok).nt_at hpX
            obtain rfl : off2 = 0 := by
              rcases hO4.shape with ⟨h9, _⟩ | ⟨q, h9⟩
              · rw [h9] at hA2; cases hA2
              · rw [h9] at hA2; injection hA2 with h8; injection h8 with _ h7; exact h7.symm
            simp only [Nat.zero_add] at z2
            have p0 : (0 : Int) ≤ (p : Int) := by omega
            have p1 : (p : Int) < (a : Int) := by omega
            have p2 : (0 : Int) < (p : Int) + 1 := by omega
            obtain rfl : ji = (p : Int) + 1 := by omega
            clear hji
            by_cases hq : y.nTil < X[p].nTil
            · have HJ2 : Hid (∀ z ∈ X.drop p, y.nTil < z.nTil) := fun z hz => by
                rw [List.drop_eq_getElem_cons hpX] at hz
                rcases List.mem_cons.1 hz with rfl | hz
                · exact hq
                · exact hJ.out z hz
              generalize X[p] = u at *
              rw [hA2]
              clear hA2 hJ
              go_upto_region 9 with (fail)
              have aft_z2 := cw_cell z2
              have aft_x2 := cw_cell x2
              refine wp_region_grand (Keeps _) (fun _ => Keeps) [] (fun _ _ _ => True) [] [] 107 (keeps_drew _) (fun _ _ _ h hz => keeps_trans h hz) (fun _ d hd _ v w w' _ h hz => by cases hd) (by kernel_rfl) (by kernel_rfl) (by rfl) ?_
              repeat (first | (refine gr_row (by rfl) ?_; (try simp only [Act.put, List.setIfInBounds_toArray, List.set_cons_zero, List.set_cons_succ])) | (refine gr_free (by rfl) (by rfl) (by rfl) (by rfl) (by rfl) (fun K hK => ?_); go_big_quiet_op; refine hK _ ?_; clear hK K) | (refine gr_q (by rfl) (by rfl) (by rfl) (by rfl) (by rfl) (by rfl) (fun K hK => ?_); go_big_quiet_op; refine hK _ ?_; clear hK K) | (refine gr_no (by rfl) (by rfl) (by rfl) ?_; (try simp only [Act.put, List.setIfInBounds_toArray, List.set_cons_zero, List.set_cons_succ])) | (refine gr_call (by rfl) (by rfl) (by rfl) (by rfl) (by rfl) (fun K hK => ?_); go_simp; (try simp only [RUp, true_and]); first | (apply Exists.intro; refine ⟨fun n => rfl, hK _ ?_⟩; clear hK K; (try simp only [Act.put, List.setIfInBounds_toArray, List.set_cons_zero, List.set_cons_succ]))))
              refine gr_end ?_
              intro γ w9 hb9 hT
              clear aft_z2 aft_x2
              simp only [putG, Act.put, List.setIfInBounds_toArray, List.set_cons_zero, List.set_cons_succ]
              refine only_end ?_
              go_wp2_with fail
              go_roundw
              case rel => exact ⟨p, p, by go_num, rfl, by omega, HJ2, bstep hb (Nat.le_refl _) hb9⟩
              case measure => simp [intOf]
            · have HPO : Hid (p + 1 = 0 ∨ ∃ p', ∃ hp : p' < X.length, p' + 1 = p + 1 ∧ ¬ y.nTil < X[p'].nTil) := .inr ⟨p, hpX, rfl, hq⟩
              generalize X[p] = u at *
              rw [hA2] at hO3 hO4 hap HB3 ⊢
              have HQ := Lib.hid hq
              clear hA2 hq
              go_upto_region 9 with (fail)
              have aft_z2 := cw_cell z2
              have aft_x2 := cw_cell x2
              refine wp_region_grand (Keeps _) (fun _ => Keeps) [] (fun _ _ _ => True) [] [] 107 (keeps_drew _) (fun _ _ _ h hz => keeps_trans h hz) (fun _ d hd _ v w w' _ h hz => by cases hd) (by kernel_rfl) (by kernel_rfl) (by rfl) ?_
              repeat (first | (refine gr_row (by rfl) ?_; (try simp only [Act.put, List.setIfInBounds_toArray, List.set_cons_zero, List.set_cons_succ])) | (refine gr_free (by rfl) (by rfl) (by rfl) (by rfl) (by rfl) (fun K hK => ?_); go_big_quiet_op; refine hK _ ?_; clear hK K) | (refine gr_q (by rfl) (by rfl) (by rfl) (by rfl) (by rfl) (by rfl) (fun K hK => ?_); go_big_quiet_op; refine hK _ ?_; clear hK K) | (refine gr_no (by rfl) (by rfl) (by rfl) ?_; (try simp only [Act.put, List.setIfInBounds_toArray, List.set_cons_zero, List.set_cons_succ])) | (refine gr_call (by rfl) (by rfl) (by rfl) (by rfl) (by rfl) (fun K hK => ?_); go_simp; (try simp only [RUp, true_and]); first | (apply Exists.intro; refine ⟨fun n => rfl, hK _ ?_⟩; clear hK K; (try simp only [Act.put, List.setIfInBounds_toArray, List.set_cons_zero, List.set_cons_succ]))))
              refine gr_end ?_
              intro γ w9 hb9 hT
              clear aft_z2 aft_x2
              simp only [putG, Act.put, List.setIfInBounds_toArray, List.set_cons_zero, List.set_cons_succ]
              refine only_end ?_
              have hb4 := bstep hb (Nat.le_refl _) hb9
              replace x0 := kcell hb9 x0
              replace x1 := kcell hb9 x1
              replace x2 := kcell hb9 x2
              have hO9 := hO4.keep hb9
              have hR9 := HB3.out.2.1.keep hb4
              clear z0 z1 z2 hO3 hO4
              by_cases hce : dO = p + 1
              · obtain rfl : a = p + 1 := by have := hO9.cap; rw [HLn.out.1] at this; omega
                subst hce
                go_upto_region 11 with (fail)
                have hcap := hO9.cap
                rw [HLn.out.1] at hcap
                have q0 : (0 : Int) ≤ (p : Int) + 1 := by omega
                have q1 : (p : Int) + 1 ≤ (((p + 1 : Nat)) : Int) := by omega
                have q2 : (p : Int) + 1 ≤ ((p + 1) : Int) := by omega
                have q3 : ((p + 1) : Int) ≤ (((p + 1 : Nat)) : Int) := by omega
                have q4 : p + 1 ≤ ((p + 1 : Nat)) := by omega
                have q5 : p + 1 ≤ (p + 1) := by omega
                have HTk := Lib.hid (show (X.take (p + 1)).length = p + 1 by rw [List.length_take, HLn.out.1]; omega)
                have h1 := (hO9.sl eNt_ok).take (p + 1)
                have HS16 : Hid (∀ W : World, Below w9.heap.size w9 W → EmptyS w9 (.slice (some ⟨W.heap.size, 0, none⟩) 0 0) (W.alloc (.cells #[] 64))) := fun W h => ⟨_, rfl, h.size, Own.empty W _ h.size⟩
                obtain ⟨y9, hy9⟩ : ∃ y9 : Nt, y9 = ⟨y.nEnv, y.nFrm, y.nTil, (ovF x.rL now k).length⟩ := ⟨_, rfl⟩
                have HYE := Lib.hid hy9
                have HY9 : Hid (∀ (W : World) t, Sl eNt 3 (W.alloc (.cells #[.int .i64 y.nEnv, .int .i64 y.nFrm, .int .i64 y.nTil] t)) (some ⟨W.heap.size, 0, none⟩) [y9]) := fun W t => Sl.new eNt_ok W y9 _ (by rw [hy9]; rfl) t
                clear hy9
                have aft_x0 := cw_cell x0
                have aft_x1 := cw_cell x1
                have aft_x2 := cw_cell x2
                refine wp_region_grand_last (Keeps _) (fun _ => Keeps) [50, 54, 56] (OvS w9 (p + 1) (X.take (p + 1)) y9) [7, 11] [[7, 4, 0], [7, 6, 5]] 107 (keeps_drew _) (fun _ _ _ h hz => keeps_trans h hz) (fun _ d hd _ v w w' _ h hz => h.keep hz) (by kernel_rfl) (by kernel_rfl) (by kernel_rfl) (by rfl) ?_
                intro l_ o_ hl_ ho_
                simp only [List.dropLast] at hl_
                simp only [List.getLast?_cons_cons, List.getLast?_singleton, Option.some.injEq] at ho_
                subst hl_ ho_
                repeat (first | (refine gr_row (by rfl) ?_; (try simp only [Act.put, List.setIfInBounds_toArray, List.set_cons_zero, List.set_cons_succ])) | (refine gr_free (by rfl) (by rfl) (by rfl) (by rfl) (by rfl) (fun K hK => ?_); go_big_quiet_op; refine hK _ ?_; clear hK K) | (refine gr_q (by rfl) (by rfl) (by rfl) (by rfl) (by rfl) (by rfl) (fun K hK => ?_); go_big_quiet_op; refine hK _ ?_; clear hK K) | (refine gr_no (by rfl) (by rfl) (by rfl) ?_; (try simp only [Act.put, List.setIfInBounds_toArray, List.set_cons_zero, List.set_cons_succ])) | (refine gr_call (by rfl) (by rfl) (by rfl) (by rfl) (by rfl) (fun K hK => ?_); go_simp; (try simp only [RUp, true_and]); first | (apply Exists.intro; refine ⟨fun n => rfl, hK _ ?_⟩; clear hK K; (try simp only [Act.put, List.setIfInBounds_toArray, List.set_cons_zero, List.set_cons_succ]))) | (refine gr_n 50 [] (by rfl) (by rfl) (by rfl) (by rfl) (fun γ w hC hT => ?_) ?_; (simp only [putG]; go_simp; exact gup_v (below1 w _) (ov50.2 (HS16.out w hC))); (try simp only [Act.put, List.setIfInBounds_toArray, List.set_cons_zero, List.set_cons_succ])) | (refine gr_n 54 [50] (by rfl) (by rfl) (by rfl) (by rfl) (fun γ w hC hT => ?_) ?_; ((obtain ⟨G, hv, hG, hO⟩ := ov50.1 (hT 50 (by simp))); refine gup_append_fresh w (.tmp 50) (.tmp 53) rfl elRN eNt_ok hO (by simp only [putG, Act.put, List.setIfInBounds_toArray, List.set_cons_zero, List.set_cons_succ]; rw [hv]; rfl) (by rfl) (m := p + 1) (ys := X.take (p + 1)) HTk.out (Sl.keep (w := w9) h1 hC) (by simp only [maxLen]; omega) (by omega) (Below.size hC) (fun A1 e1 w1 h => ov54.2 ⟨A1, e1, rfl, h⟩)); (try simp only [Act.put, List.setIfInBounds_toArray, List.set_cons_zero, List.set_cons_succ])) | (refine gr_n 56 [] (by rfl) (by rfl) (by rfl) (by rfl) (fun γ w hC hT => ?_) ?_; (simp only [putG]; go_simp; exact gup_v (below1 w _) (ov56.2 ⟨_, rfl, HY9.out w _⟩)); (try simp only [Act.put, List.setIfInBounds_toArray, List.set_cons_zero, List.set_cons_succ])))
                refine gr_end ?_
                intro γ w5 hb5 hT
                clear aft_x0 aft_x1 aft_x2
                simp only [putG, Act.put, List.setIfInBounds_toArray, List.set_cons_zero, List.set_cons_succ]
                simp only [List.filterMap_cons, List.filterMap_nil, List.getElem?_cons_succ, List.getElem?_cons_zero]
                obtain ⟨A1, e1, g54, own1⟩ := ov54.1 (hT 54 (by simp))
                obtain ⟨G2, g56, sl1⟩ := ov56.1 (hT 56 (by simp))
                rw [g54, g56]
                clear g54 g56 hT HS16 h1 x0 x1 x2
                refine wpList_append_sl w5 rfl (.tmp 54) (.tmp 56) rfl elRN eNt_ok (base := w9.heap.size) (xs := X.take (p + 1)) own1 (n := p + 1) HTk.out rfl (m := 1) rfl (ys := [y9]) rfl sl1 (by simp only [maxLen]; omega) (by omega) (Below.size hb5) _ rfl (p + 1 + 1) rfl ?_
                intro A2 e2 w6 own2 hg6 at6
                have hB6 : Below w9.heap.size w9 w6 := bgrow hb5 hg6 (fun q hq => (own1.lt q hq).1)
                refine wpList_append_sl w6 rfl (.tmp 57) (.tmp 60) rfl elRN eNt_ok (base := w9.heap.size) own2 (n := p + 1 + 1) (by rw [List.length_append, HTk.out] <;> rfl) rfl (m := 0) (d := 0) (B := some ⟨b2, 0, none⟩) (by rfl) (ys := X.drop (p + 1)) (by rw [List.length_drop, HLn.out.1] <;> omega) (by rw [List.drop_of_length_le (by rw [HLn.out.1]; omega)]; exact Sl.empty_at) (by simp only [maxLen]; omega) (by omega) (Below.size hB6) _ rfl ((p + 1) + 1) (by omega) ?_
                intro A3 e3 w7 own3 hg7 at7
                have hB7 : Below w9.heap.size w9 w7 := bgrow hB6 hg7 (fun q hq => (own2.lt q hq).1)
                refine only_end ?_
                refine then_assign (.tmp 61) rfl (.slice A3 ((p + 1) + 1) e3) rfl ?_
                simp only [Act.put, List.setIfInBounds_toArray, List.set_cons_zero, List.set_cons_succ]
                have HW := Lib.hid (And.intro own3 hB7)
                clear own1 own2 own3 hg6 hg7 at6 at7 hB6 hB7 hb5 sl1
                go_wp2_with fail
                go_roundw
                case rel =>
                  have hbw : wb.heap.size ≤ w9.heap.size := Nat.le_trans hz3 hb4.size
                  refine ⟨k + 1, (p + 1) + 1, b, X.take (p + 1) ++ y9 :: X.drop (p + 1), Y, A3, R, e3, dR, by go_num, rfl, rfl, by omega, by omega, by omega, ⟨?_, HLn.out.2⟩, ?_, by rw [HH.out.1]; exact hY.out, ?_, hR9.keep HW.out.2, ?_, ?_⟩
                  · rw [List.length_append, HTk.out, List.length_cons, List.length_drop, HLn.out.1] <;> omega
                  · rw [HH.out.2, HYE.out]; exact hX.out.ins y hJ.out HPO.out
                  · have := HW.out.1.from_ hbw
                    rw [List.append_assoc] at this
                    exact this
                  · intro q hq e
                    have := (HW.out.1.lt q hq).1
                    have := (hR9.lt q e).2
                    omega
                  · exact (HB3.out.1.trans (hb4.mono hz3)).trans (HW.out.2.mono hbw)
                case measure => simp [intOf]; omega
              · go_upto_region 11 with (fail)
                have hcap := hO9.cap
                rw [HLn.out.1] at hcap
                have q0 : (0 : Int) ≤ (p : Int) + 1 := by omega
                have q1 : (p : Int) + 1 ≤ (dO : Int) := by omega
                have q2 : (p : Int) + 1 ≤ (a : Int) := by omega
                have q3 : (a : Int) ≤ (dO : Int) := by omega
                have q4 : p + 1 ≤ dO := by omega
                have q5 : p + 1 ≤ a := by omega
                have HTk := Lib.hid (show (X.take (p + 1)).length = p + 1 by rw [List.length_take, HLn.out.1]; omega)
                have h1 := (hO9.sl eNt_ok).take (p + 1)
                have HS16 : Hid (∀ W : World, Below w9.heap.size w9 W → EmptyS w9 (.slice (some ⟨W.heap.size, 0, none⟩) 0 0) (W.alloc (.cells #[] 64))) := fun W h => ⟨_, rfl, h.size, Own.empty W _ h.size⟩
                obtain ⟨y9, hy9⟩ : ∃ y9 : Nt, y9 = ⟨y.nEnv, y.nFrm, y.nTil, (ovF x.rL now k).length⟩ := ⟨_, rfl⟩
                have HYE := Lib.hid hy9
                have HY9 : Hid (∀ (W : World) t, Sl eNt 3 (W.alloc (.cells #[.int .i64 y.nEnv, .int .i64 y.nFrm, .int .i64 y.nTil] t)) (some ⟨W.heap.size, 0, none⟩) [y9]) := fun W t => Sl.new eNt_ok W y9 _ (by rw [hy9]; rfl) t
                clear hy9
                have aft_x0 := cw_cell x0
                have aft_x1 := cw_cell x1
                have aft_x2 := cw_cell x2
                refine wp_region_grand_last (Keeps _) (fun _ => Keeps) [50, 54, 56] (OvS w9 (p + 1) (X.take (p + 1)) y9) [7, 11] [[7, 4, 0], [7, 6, 5]] 107 (keeps_drew _) (fun _ _ _ h hz => keeps_trans h hz) (fun _ d hd _ v w w' _ h hz => h.keep hz) (by kernel_rfl) (by kernel_rfl) (by kernel_rfl) (by rfl) ?_
                intro l_ o_ hl_ ho_
                simp only [List.dropLast] at hl_
                simp only [List.getLast?_cons_cons, List.getLast?_singleton, Option.some.injEq] at ho_
                subst hl_ ho_
                repeat (first | (refine gr_row (by rfl) ?_; (try simp only [Act.put, List.setIfInBounds_toArray, List.set_cons_zero, List.set_cons_succ])) | (refine gr_free (by rfl) (by rfl) (by rfl) (by rfl) (by rfl) (fun K hK => ?_); go_big_quiet_op; refine hK _ ?_; clear hK K) | (refine gr_q (by rfl) (by rfl) (by rfl) (by rfl) (by rfl) (by rfl) (fun K hK => ?_); go_big_quiet_op; refine hK _ ?_; clear hK K) | (refine gr_no (by rfl) (by rfl) (by rfl) ?_; (try simp only [Act.put, List.setIfInBounds_toArray, List.set_cons_zero, List.set_cons_succ])) | (refine gr_call (by rfl) (by rfl) (by rfl) (by rfl) (by rfl) (fun K hK => ?_); go_simp; (try simp only [RUp, true_and]); first | (apply Exists.intro; refine ⟨fun n => rfl, hK _ ?_⟩; clear hK K; (try simp only [Act.put, List.setIfInBounds_toArray, List.set_cons_zero, List.set_cons_succ]))) | (refine gr_n 50 [] (by rfl) (by rfl) (by rfl) (by rfl) (fun γ w hC hT => ?_) ?_; (simp only [putG]; go_simp; exact gup_v (below1 w _) (ov50.2 (HS16.out w hC))); (try simp only [Act.put, List.setIfInBounds_toArray, List.set_cons_zero, List.set_cons_succ])) | (refine gr_n 54 [50] (by rfl) (by rfl) (by rfl) (by rfl) (fun γ w hC hT => ?_) ?_; ((obtain ⟨G, hv, hG, hO⟩ := ov50.1 (hT 50 (by simp))); refine gup_append_fresh w (.tmp 50) (.tmp 53) rfl elRN eNt_ok hO (by simp only [putG, Act.put, List.setIfInBounds_toArray, List.set_cons_zero, List.set_cons_succ]; rw [hv]; rfl) (by rfl) (m := p + 1) (ys := X.take (p + 1)) HTk.out (Sl.keep (w := w9) h1 hC) (by simp only [maxLen]; omega) (by omega) (Below.size hC) (fun A1 e1 w1 h => ov54.2 ⟨A1, e1, rfl, h⟩)); (try simp only [Act.put, List.setIfInBounds_toArray, List.set_cons_zero, List.set_cons_succ])) | (refine gr_n 56 [] (by rfl) (by rfl) (by rfl) (by rfl) (fun γ w hC hT => ?_) ?_; (simp only [putG]; go_simp; exact gup_v (below1 w _) (ov56.2 ⟨_, rfl, HY9.out w _⟩)); (try simp only [Act.put, List.setIfInBounds_toArray, List.set_cons_zero, List.set_cons_succ])))
                refine gr_end ?_
                intro γ w5 hb5 hT
                clear aft_x0 aft_x1 aft_x2
                simp only [putG, Act.put, List.setIfInBounds_toArray, List.set_cons_zero, List.set_cons_succ]
                simp only [List.filterMap_cons, List.filterMap_nil, List.getElem?_cons_succ, List.getElem?_cons_zero]
                obtain ⟨A1, e1, g54, own1⟩ := ov54.1 (hT 54 (by simp))
                obtain ⟨G2, g56, sl1⟩ := ov56.1 (hT 56 (by simp))
                rw [g54, g56]
                clear g54 g56 hT HS16 h1 x0 x1 x2
                refine wpList_append_sl w5 rfl (.tmp 54) (.tmp 56) rfl elRN eNt_ok (base := w9.heap.size) (xs := X.take (p + 1)) own1 (n := p + 1) HTk.out rfl (m := 1) rfl (ys := [y9]) rfl sl1 (by simp only [maxLen]; omega) (by omega) (Below.size hb5) _ rfl (p + 1 + 1) rfl ?_
                intro A2 e2 w6 own2 hg6 at6
                have hB6 : Below w9.heap.size w9 w6 := bgrow hb5 hg6 (fun q hq => (own1.lt q hq).1)
                refine wpList_append_sl w6 rfl (.tmp 57) (.tmp 60) rfl elRN eNt_ok (base := w9.heap.size) own2 (n := p + 1 + 1) (by rw [List.length_append, HTk.out] <;> rfl) rfl (m := a - (p + 1)) (by rfl) (ys := X.drop (p + 1)) (by rw [List.length_drop, HLn.out.1] <;> omega) (((hO9.sl eNt_ok).tail (i := p) (k := a - (p + 1)) (by rw [HLn.out.1]; omega)).keep hB6) (by simp only [maxLen]; omega) (by omega) (Below.size hB6) _ rfl (a + 1) (by omega) ?_
                intro A3 e3 w7 own3 hg7 at7
                have hB7 : Below w9.heap.size w9 w7 := bgrow hB6 hg7 (fun q hq => (own2.lt q hq).1)
                refine only_end ?_
                refine then_assign (.tmp 61) rfl (.slice A3 (a + 1) e3) rfl ?_
                simp only [Act.put, List.setIfInBounds_toArray, List.set_cons_zero, List.set_cons_succ]
                have HW := Lib.hid (And.intro own3 hB7)
                clear own1 own2 own3 hg6 hg7 at6 at7 hB6 hB7 hb5 sl1
                go_wp2_with fail
                go_roundw
                case rel =>
                  have hbw : wb.heap.size ≤ w9.heap.size := Nat.le_trans hz3 hb4.size
                  refine ⟨k + 1, a + 1, b, X.take (p + 1) ++ y9 :: X.drop (p + 1), Y, A3, R, e3, dR, by go_num, rfl, rfl, by omega, by omega, by omega, ⟨?_, HLn.out.2⟩, ?_, by rw [HH.out.1]; exact hY.out, ?_, hR9.keep HW.out.2, ?_, ?_⟩
                  · rw [List.length_append, HTk.out, List.length_cons, List.length_drop, HLn.out.1] <;> omega
                  · rw [HH.out.2, HYE.out]; exact hX.out.ins y hJ.out HPO.out
                  · have := HW.out.1.from_ hbw
                    rw [List.append_assoc] at this
                    exact this
                  · intro q hq e
                    have := (HW.out.1.lt q hq).1
                    have := (hR9.lt q e).2
                    omega
                  · exact (HB3.out.1.trans (hb4.mono hz3)).trans (HW.out.2.mono hbw)
                case measure => simp [intOf]; omega
    · obtain rfl : k = n := by omega
      have k1 : ¬ (k : Int) < (k : Int) := by omega
      have b6 : Blk wr w.heap.size 47 (eRd x).toArray := by rw [← HM.out.1]; exact HX.out.1.keep hB
      have HQ0 := Lib.hid (Q4.start HR.out b6 (HX.out.2.1.keep hB) (by rw [← HZ.out]; exact hR) (by rw [← HZ.out]; exact hO) (bstep HB.out (Nat.le_refl _) hB) HLn.out.2)
      have HO1 := Lib.hid (b6.one (i := 0) (by simp [eRd]))
      have hXE : Hid (∀ y ∈ X, 0 ≤ y.nEnv ∧ y.nEnv < 8) := fun y hy => by
        obtain ⟨z, hz, h1, _⟩ := retag_mem (hX.out.p.mem_iff.1 hy)
        rw [h1]
        exact HE.out z (List.mem_of_mem_take (List.mem_filter.1 hz).1)
      have HTL : Hid (∀ t ∈ x.rT, t.tV.length ≤ 16) := fun t ht => (HR.out.tok t ht).len
      clear b6 hO hR hap hB hws hlt
      go_wp2_with (refine wpList_store_cell wr rfl 43 _ _ rfl w.heap.size 0 (.slice R b dR) rfl rfl (by kernel_rfl) rfl HO1.out ?_)
      clear c0
      generalize wr.setCell ⟨w.heap.size, 0, none⟩ (.slice R b dR) = w7 at *
      go_loopw [11] (fun v11 ws => ∃ (j : Nat) (ts : List Td), v11 = .int .i64 j ∧ j ≤ a ∧ Hid (Q4 w ws w.heap.size R O Y X dR dO ts) ∧ Hid (∀ t ∈ ts, t.tV.length ≤ 16) ∧ Hid (ts.map Td.tV = (X.take j).foldl putD (x.rT.map Td.tV))) (fun v11 _ => a - (intOf v11).toNat)
      case atStart => exact ⟨0, x.rT, rfl, Nat.zero_le _, HQ0, HTL, rfl⟩
      case round =>
        clear HQ0 HTL HO1
        obtain ⟨j, ts, rfl, hj, HQ, HL, HT⟩ := hrel
        by_cases hlt : j < a
        · have hjX : j < X.length := by have := HLn.out.1; omega
          obtain ⟨bq, off, rfl, y0, y1, _⟩ := (HQ.out.oO.sl eNt_ok).nt_at hjX
          have hy := hXE.out _ (List.getElem_mem hjX)
          have HTk := Lib.hid (show X.take (j + 1) = X.take j ++ [X[j]] by rw [List.take_add_one]; simp [hjX])
          have j0 : (0 : Int) ≤ (j : Int) := by omega
          have j1 : (j : Int) < (a : Int) := by omega
          generalize X[j] = y at *
          obtain ⟨e, he⟩ := Int.eq_ofNat_of_zero_le hy.1
          have he8 : e < 8 := by omega
          have het : e < ts.length := by rw [HQ.out.t8]; exact he8
          rw [he] at y0
          have hc1 := HQ.out.cell het
          have hL1 := HL.out ts[e] (List.getElem_mem het)
          have hS1 := HQ.out.tok ts[e] (List.getElem_mem het)
          have HP : Hid (∀ t : Td, t.tV = putI ts[e].tV y.nFrm → (ts.set e t).map Td.tV = (X.take (j + 1)).foldl putD (x.rT.map Td.tV)) := fun t ht => by
            rw [HTk.out, List.foldl_append, ← HT.out, List.map_set, ht]
            simp only [List.foldl_cons, List.foldl_nil]
            unfold putD
            rw [he]
            simp [het]
          generalize ts[e] = tt at *
          obtain ⟨A, V, c⟩ := tt
          simp only [eTd] at hc1 hL1 HP
          have hsl := hS1.sl
          simp only at hsl
          obtain ⟨m, hm⟩ : ∃ m, m = V.length := ⟨_, rfl⟩
          rw [← hm] at hc1 hL1
          have HV := Lib.hid hm.symm
          have HE8 := Lib.hid (And.intro hy he)
          have e0 : (0 : Int) ≤ (e : Int) := by omega
          have e8 : (e : Int) < 8 := by omega
          have HEm : Hid (∀ W : World, Below wr.heap.size wr W → EmptyI wr (.slice (some ⟨W.heap.size, 0, none⟩) 0 0) (W.alloc (.cells #[] 3))) := fun W h => ⟨_, rfl, h.size, Own.empty W _ h.size⟩
          have HOne : Hid (∀ (W : World) t, Sl eI 1 (W.alloc (.cells #[.int .i64 y.nFrm] t)) (some ⟨W.heap.size, 0, none⟩) [y.nFrm]) := fun W t => Sl.new eI_ok W y.nFrm _ rfl t
          clear hm hy he HT hS1 HTk
          go_upto_region 17 with (fail)
          have aft_hc1 := cw_cell hc1
          have aft_y1 := cw_cell y1
          refine wp_region_grand (Keeps _) (fun _ => Keeps) [76, 81, 87] (VecS wr m V y.nFrm) [13, 16] [[13, 6, 1], [13, 6, 5], [13, 12, 11]] 107 (keeps_drew _) (fun _ _ _ h hz => keeps_trans h hz) (fun _ d hd _ v w w' _ h hz => h.keep hz) (by kernel_rfl) (by kernel_rfl) (by rfl) ?_
          repeat (first | (refine gr_row (by rfl) ?_; (try simp only [Act.put, List.setIfInBounds_toArray, List.set_cons_zero, List.set_cons_succ])) | (refine gr_free (by rfl) (by rfl) (by rfl) (by rfl) (by rfl) (fun K hK => ?_); go_big_quiet_op; refine hK _ ?_; clear hK K) | (refine gr_q (by rfl) (by rfl) (by rfl) (by rfl) (by rfl) (by rfl) (fun K hK => ?_); go_big_quiet_op; refine hK _ ?_; clear hK K) | (refine gr_no (by rfl) (by rfl) (by rfl) ?_; (try simp only [Act.put, List.setIfInBounds_toArray, List.set_cons_zero, List.set_cons_succ])) | (refine gr_call (by rfl) (by rfl) (by rfl) (by rfl) (by rfl) (fun K hK => ?_); go_simp; (try simp only [RUp, true_and]); first | (apply Exists.intro; refine ⟨fun n => rfl, hK _ ?_⟩; clear hK K; (try simp only [Act.put, List.setIfInBounds_toArray, List.set_cons_zero, List.set_cons_succ]))) | (refine gr_n 76 [] (by rfl) (by rfl) (by rfl) (by rfl) (fun γ w hC hT => ?_) ?_; (simp only [putG]; go_simp; exact gup_v (below1 w _) (vs76.2 (HEm.out w hC))); (try simp only [Act.put, List.setIfInBounds_toArray, List.set_cons_zero, List.set_cons_succ])) | (refine gr_n 81 [76] (by rfl) (by rfl) (by rfl) (by rfl) (fun γ w hC hT => ?_) ?_; ((obtain ⟨G, hv, hG, hO⟩ := vs76.1 (hT 76 (by simp))); refine gup_append_fresh w (.tmp 76) (.tmp 80) rfl elI eI_ok hO (by simp only [putG, Act.put, List.setIfInBounds_toArray, List.set_cons_zero, List.set_cons_succ]; rw [hv]; rfl) (by rfl) (m := m) (ys := V) HV.out (Sl.keep (w := wr) hsl hC) (by simp only [maxLen]; omega) (by omega) (Below.size hC) (fun A1 e1 w1 h => vs81.2 ⟨A1, e1, rfl, h⟩)); (try simp only [Act.put, List.setIfInBounds_toArray, List.set_cons_zero, List.set_cons_succ])) | (refine gr_n 87 [] (by rfl) (by rfl) (by rfl) (by rfl) (fun γ w hC hT => ?_) ?_; (simp only [putG]; go_simp; exact gup_v (below1 w _) (vs87.2 ⟨_, rfl, HOne.out w _⟩)); (try simp only [Act.put, List.setIfInBounds_toArray, List.set_cons_zero, List.set_cons_succ])))
          refine gr_end ?_
          intro γ w5 hb5 hT
          clear aft_hc1 aft_y1
          simp only [putG, Act.put, List.setIfInBounds_toArray, List.set_cons_zero, List.set_cons_succ]
          simp only [List.filterMap_cons, List.filterMap_nil, List.getElem?_cons_succ, List.getElem?_cons_zero]
          obtain ⟨A1, e1, g81, own1⟩ := vs81.1 (hT 81 (by simp))
          obtain ⟨G2, g87, sl1⟩ := vs87.1 (hT 87 (by simp))
          rw [g81, g87]
          clear g81 g87 hT HEm HOne hsl y0 y1 hc1
          refine wpList_append_sl w5 rfl (.tmp 81) (.tmp 87) rfl elI eI_ok (base := wr.heap.size) (xs := V) own1 (n := m) HV.out rfl (m := 1) rfl (ys := [y.nFrm]) rfl sl1 (by simp only [maxLen]; omega) (by omega) (Below.size hb5) _ rfl (m + 1) rfl ?_
          intro A2 e2 w6 own2 hg6 at6
          have hB6 : Below wr.heap.size wr w6 := bgrow hb5 hg6 (fun q hq => (own1.lt q hq).1)
          have hQ6 := HQ.out.keep hB6
          have hQ7 := hQ6.put ⟨A2, V ++ [y.nFrm], e2⟩ (Tq.new own2) he8
          have hlen : (V ++ [y.nFrm]).length = m + 1 := by rw [List.length_append, HV.out]; rfl
          have heT : eTd ⟨A2, V ++ [y.nFrm], e2⟩ = .slice A2 (m + 1) e2 := by unfold eTd; rw [hlen]
          rw [heT] at hQ7
          refine wpList_store_cell w6 rfl 44 _ _ rfl w.heap.size (1 + e) (.slice A2 (m + 1) e2) rfl rfl (by kernel_rfl) rfl (hQ6.bx.one (by rw [List.size_toArray]; simp [eRd, hQ6.t8]; omega)) ?_
          refine only_end ?_
          simp only [Act.put, List.setIfInBounds_toArray, List.set_cons_zero, List.set_cons_succ]
          obtain ⟨q, rfl⟩ : ∃ q, A2 = some ⟨q, 0, none⟩ := by
            rcases own2.shape with ⟨_, h, _⟩ | h
            · simp at h
            · exact h
          have hcap := own2.cap
          rw [hlen] at hcap
          have HSet : Hid (∀ (t' : Td), t'.tV = putI V y.nFrm → (∀ t ∈ ts.set e t', t.tV.length ≤ 16)) := fun t' h t ht => by
            rcases List.mem_or_eq_of_mem_set ht with ht | rfl
            · exact HL.out t ht
            · rw [h]; exact putI_len (by rw [HV.out]; exact hL1)
          generalize w6.setCell ⟨w.heap.size, 1 + e, none⟩ (.slice (some ⟨q, 0, none⟩) (m + 1) e2) = w8 at hQ7 ⊢
          have c7 : w8.cell? ⟨w.heap.size, 1 + e, none⟩ = some (.slice (some ⟨q, 0, none⟩) (m + 1) e2) := by
            have := hQ7.cell (e := e) (by rw [List.length_set]; exact het)
            rw [List.getElem_set_self, heT] at this
            exact this
          by_cases h16 : 16 < m + 1
          · have l1 : (16 : Int) < (m : Int) + 1 := by omega
            have hQ8 := hQ7.put ⟨some ⟨q, 0 + 1, none⟩, (V ++ [y.nFrm]).drop 1, e2 - 1⟩ (Tq.cut (hQ7.tok ⟨some ⟨q, 0, none⟩, V ++ [y.nFrm], e2⟩ (List.mem_set het _)) (by rw [hlen]; omega)) he8
            have hpt : (V ++ [y.nFrm]).drop 1 = putI V y.nFrm := by unfold putI; rw [if_pos (by rw [HV.out]; exact h16)]
            have hdl : ((V ++ [y.nFrm]).drop 1).length = m := by rw [List.length_drop, hlen]; rfl
            have heU : eTd ⟨some ⟨q, 0 + 1, none⟩, (V ++ [y.nFrm]).drop 1, e2 - 1⟩ = .slice (some ⟨q, 1, none⟩) m (e2 - 1) := by unfold eTd; rw [hdl]
            rw [heU, List.set_set] at hQ8
            have HF := Lib.hid (And.intro hQ8 (And.intro (HP.out ⟨some ⟨q, 0 + 1, none⟩, (V ++ [y.nFrm]).drop 1, e2 - 1⟩ hpt) (HSet.out ⟨some ⟨q, 0 + 1, none⟩, (V ++ [y.nFrm]).drop 1, e2 - 1⟩ hpt)))
            have HO8 := Lib.hid (hQ7.bx.one (i := 1 + e) (by rw [List.size_toArray]; simp [eRd, hQ6.t8]; omega))
            have q1 : (1 : Int) ≤ (m : Int) + 1 := by omega
            have q2 : (m : Int) + 1 ≤ (e2 : Int) := by omega
            have q3 : ¬ e2 = 1 := by omega
            clear hQ6 hQ7 hQ8 HP HSet HL hpt hdl heU heT own1 own2 hg6 at6 hB6 hb5 sl1 hcap hlen
            go_wp2_with (refine wpList_store_cell w8 rfl 44 _ _ rfl w.heap.size (1 + e) (.slice (some ⟨q, 1, none⟩) m (e2 - 1)) rfl rfl (by kernel_rfl) rfl HO8.out ?_)
            go_roundw
            case rel => exact ⟨j + 1, _, by go_num, by omega, HF.out.1, HF.out.2.2, HF.out.2.1⟩
            case measure => simp [intOf]; omega
          · have l1 : ¬ (16 : Int) < (m : Int) + 1 := by omega
            have hpt : V ++ [y.nFrm] = putI V y.nFrm := by unfold putI; rw [if_neg (by rw [HV.out]; exact h16)]
            have HF := Lib.hid (And.intro hQ7 (And.intro (HP.out ⟨some ⟨q, 0, none⟩, V ++ [y.nFrm], e2⟩ hpt) (HSet.out ⟨some ⟨q, 0, none⟩, V ++ [y.nFrm], e2⟩ hpt)))
            clear hQ6 hQ7 HP HSet HL hpt heT own1 own2 hg6 at6 hB6 hb5 sl1 hcap hlen
            go_wp2_with fail
            go_roundw
            case rel => exact ⟨j + 1, _, by go_num, by omega, HF.out.1, HF.out.2.2, HF.out.2.1⟩
            case measure => simp [intOf]; omega
        · obtain rfl : j = a := by omega
          have j1 : ¬ (j : Int) < (j : Int) := by omega
          obtain ⟨M2, hM2⟩ : ∃ M2, M2 = eRd ⟨R, Y, dR, ts⟩ := ⟨_, rfl⟩
          have hq := HQ.out
          have hl2 : M2.length = 9 := by rw [hM2]; simp [eRd, hq.t8]
          have hF := hq.fin HL.out hM2
          have hbx := hq.bx
          rw [← hM2] at hbx
          have HW := Lib.hid (And.intro (rd_info M2 hl2) (And.intro (show zeroRd.size = M2.length by rw [hl2]; rfl) (And.intro (show ∀ u ∈ M2, u.oneCell' = true by rw [hM2]; exact eRd_one _) (And.intro hbx (And.intro hq.rs hF)))))
          have HM2 := Lib.hid hM2
          have hTV : ts.map Td.tV = X.foldl putD (x.rT.map Td.tV) := by rw [HT.out, List.take_of_length_le (by rw [HLn.out.1]; exact Nat.le_refl _)]
          have HTV := Lib.hid hTV
          clear hq hl2 hF hbx hM2 hTV HQ HL HT
          go_wp2_with (first | (refine wpList_load_mid rfl 47 _ rfl w.heap.size 0 rfl M2 _ HW.out.2.2.2.1.range Try.underlying47 rfl HW.out.1 ?_) | (refine wpList_store_mid rfl 47 _ _ rfl (w.heap.size + 1) 0 M2.toArray rfl rfl (HW.out.2.2.2.2.1.there (by simp [HW.out.2.1])) (by simpa using HW.out.1) (all_oneCell_toArray HW.out.2.2.1) ?_))
          exact bodyPost_ret (results_cell_tmp rfl _ _ (w.heap.size + 1) M2 _ rfl HW.out.2.2.2.2.2.1.range Try.underlying47 rfl HW.out.1) rfl ⟨O, dO, X, ⟨R, Y, dR, ts⟩, by rw [HM2.out, HLn.out.1]; rfl, HW.out.2.2.2.2.2.2.2.1, HW.out.2.2.2.2.2.2.2.2.1, by rw [← HN.out]; exact hX.out, HW.out.2.2.2.2.2.2.1, by rw [← HN.out]; exact hY.out, HTV.out, HW.out.2.2.2.2.2.2.2.2.2⟩
end Go.Proofs.Ytdfklbjkcednhaa
