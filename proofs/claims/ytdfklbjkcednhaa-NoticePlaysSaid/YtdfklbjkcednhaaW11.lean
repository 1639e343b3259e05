/- Walk: Over. -/
import Derived.Test.YtdfklbjkcednhaaW10
import Derived.Test.YtdfklbjkcednhaaPhs
namespace Go.Proofs.Ytdfklbjkcednhaa
open Go.RowKit Go.Lib

/-- the numbers that only the proof knows, in the order of the list -/
def retag : Nat → List Nt → List Nt
  | _, [] => []
  | k, x :: xs => ⟨x.nEnv, x.nFrm, x.nTil, k⟩ :: retag (k + 1) xs
theorem retag_len (xs : List Nt) : ∀ k, (retag k xs).length = xs.length := by
  induction xs with
  | nil => intro k; rfl
  | cons x xs ih => intro k; simp [retag, ih]
theorem retag_flat (xs : List Nt) : ∀ k, (retag k xs).flatMap eNt = xs.flatMap eNt := by
  induction xs with
  | nil => intro k; rfl
  | cons x xs ih => intro k; simp only [retag, List.flatMap_cons, ih]; rfl
theorem retag_tag (xs : List Nt) : ∀ k i, i < xs.length → (atT (retag k xs) i).nTag = k + i := by
  induction xs with
  | nil => intro k i h; simp at h
  | cons x xs ih =>
    intro k i h
    cases i with
    | zero => simp [retag, atT]
    | succ i =>
      have := ih (k + 1) i (by simpa using h)
      simp only [retag]
      rw [show atT (⟨x.nEnv, x.nFrm, x.nTil, k⟩ :: retag (k + 1) xs) (i + 1) = atT (retag (k + 1) xs) i from rfl, this]
      omega
theorem retag_rise (xs : List Nt) : ∀ i j, i < j → j < (retag 0 xs).length → (atT (retag 0 xs) i).nTag < (atT (retag 0 xs) j).nTag := fun i j hij hj => by
  rw [retag_len] at hj
  rw [retag_tag xs 0 i (by omega), retag_tag xs 0 j hj]
  omega
theorem retag_mem {xs : List Nt} : ∀ {k : Nat} {y : Nt}, y ∈ retag k xs → ∃ x ∈ xs, y.nEnv = x.nEnv ∧ y.nFrm = x.nFrm ∧ y.nTil = x.nTil := by
  induction xs with
  | nil => intro k y h; simp [retag] at h
  | cons x xs ih =>
    intro k y h
    simp only [retag, List.mem_cons] at h
    rcases h with rfl | h
    · exact ⟨x, by simp, rfl, rfl, rfl⟩
    · obtain ⟨z, hz, h1⟩ := ih h
      exact ⟨z, by simp [hz], h1⟩
def putVS (VS : List Vc) (x : Nt) : List Vc := VS.set x.nEnv.toNat (putC (VS.getD x.nEnv.toNat ⟨[], 0⟩) x.nFrm)
theorem putC_ok {v : Vc} (h : v.vF.length = 16 ∧ v.vS ≤ 16) (x : Int) : (putC v x).vF.length = 16 ∧ (putC v x).vS ≤ 16 := by
  unfold putC
  split <;> simp <;> omega
theorem putVS_ok {VS : List Vc} (h8 : VS.length = 8) (h : ∀ v ∈ VS, v.vF.length = 16 ∧ v.vS ≤ 16) {x : Nt} (hx : 0 ≤ x.nEnv ∧ x.nEnv < 8) : (putVS VS x).length = 8 ∧ ∀ v ∈ putVS VS x, v.vF.length = 16 ∧ v.vS ≤ 16 := by
  refine ⟨by simp [putVS, h8], fun v hv => ?_⟩
  have he : x.nEnv.toNat < VS.length := by omega
  rcases List.mem_or_eq_of_mem_set hv with hv | rfl
  · exact h v hv
  · refine putC_ok (h _ ?_) _
    simp [he]
theorem bdC_cut (A : Option Addr) (n c : Nat) (VS : List Vc) {e : Nat} (he : e < VS.length) (v : Vc) : bdC A n c (VS.set e v) = (.slice A n c :: (VS.take e).flatMap vcC) ++ vcC v ++ (VS.drop (e + 1)).flatMap vcC := by
  unfold bdC
  rw [List.set_eq_take_append_cons_drop, if_pos he]
  simp
theorem vc_flat_len : ∀ (VS : List Vc), (∀ v ∈ VS, v.vF.length = 16 ∧ v.vS ≤ 16) → (VS.flatMap vcC).length = VS.length * 17
  | [], _ => rfl
  | v :: VS, h => by
    have := vc_flat_len VS (fun x hx => h x (by simp [hx]))
    have h1 := (h v (by simp)).1
    simp only [List.flatMap_cons, List.length_append, this, vcC, List.length_map, h1, List.length_cons, List.length_nil]
    omega
section
variable {w w' : World} {g c : Nat} {A : Option Addr} {L : List Nt} {VS : List Vc}
theorem Bd.vec (h : Bd w g A c L VS) {e : Nat} (he : e < 8) : VB w g (1 + e * 17) 31 (.slice A L.length c :: (VS.take e).flatMap vcC) ((VS.drop (e + 1)).flatMap vcC) (VS.getD e ⟨[], 0⟩) := by
  have h8 := h.v8
  have hg : VS.getD e ⟨[], 0⟩ = VS[e]'(by omega) := by simp [show e < VS.length by omega]
  have h1 := h.ok _ (List.getElem_mem (show e < VS.length by omega))
  refine ⟨?_, ?_, by rw [hg]; exact h1.1, by rw [hg]; exact h1.2⟩
  · rw [← bdC_cut A L.length c VS (by omega) (VS.getD e ⟨[], 0⟩), hg, List.set_getElem_self]
    exact h.b
  · simp only [List.length_cons]
    rw [vc_flat_len _ (fun v hv => h.ok v (List.mem_of_mem_take hv)), List.length_take]
    omega
theorem Bd.of_vec (h : Bd w g A c L VS) {x : Nt} (hx : 0 ≤ x.nEnv ∧ x.nEnv < 8) (hv : VB w' g (1 + x.nEnv.toNat * 17) 31 (.slice A L.length c :: (VS.take x.nEnv.toNat).flatMap vcC) ((VS.drop (x.nEnv.toNat + 1)).flatMap vcC) (putC (VS.getD x.nEnv.toNat ⟨[], 0⟩) x.nFrm)) (hg : w.grownBy w' (some g)) : Bd w' g A c L (putVS VS x) := by
  have h8 := h.v8
  obtain ⟨p1, p2⟩ := putVS_ok h8 h.ok hx
  refine ⟨?_, h.o.kept hg ?_, p1, p2⟩
  · unfold putVS
    rw [bdC_cut A L.length c VS (by omega)]
    exact hv.b
  · cases hb : blk A with
    | none => exact .inl rfl
    | some q => right; intro e; injection e with e; exact h.ne q hb e
end
def RetOv (g : Nat) (L : List Nt) (VS : List Vc) (now : Int) (w : World) (e : Ending) (w' : World) : Prop :=
  ∃ (O : Option Addr) (d : Nat) (T : List Nt) (A' : Option Addr) (c' : Nat), e = .returned (.slice O T.length d) ∧ Own eNt 3 w' w.heap.size 39 O d T ∧ Srt T ∧ T.Perm (retag 0 (L.filter fun x => decide (x.nTil ≤ now))) ∧ Bd w' g A' c' (L.filter fun x => decide (now < x.nTil)) (T.foldl putVS VS) ∧ Ne g w w'

set_option maxRecDepth 100000 in
set_option maxHeartbeats 8000000 in
theorem over_any {g c : Nat} {A : Option Addr} {L : List Nt} {VS : List Vc} (now : Int) (w : World) (hd : Bd w g A c L VS) (hl : L.length ≤ 500) (hE : ∀ x ∈ L, 0 ≤ x.nEnv ∧ x.nEnv < 8) :
    Calls Try.prog 7 #[.pointer (some ⟨g, 0, none⟩), .int .i64 now] w (RetOv g L VS now w) := by
  have c0 := hd.c0
  have hgs := hd.lt
  have HD := Lib.hid hd
  have HE := Lib.hid hE
  obtain ⟨n, hn⟩ : ∃ n, n = L.length := ⟨_, rfl⟩
  rw [← hn] at c0
  have HN := Lib.hid hn
  have hn5 : n ≤ 500 := by omega
  clear hd hE hn hl
  go_enter Try.func7, Try.ntmps7
  go_wp2_with fail
  go_loopw [5, 6, 18] (fun v5 v6 v18 wr => ∃ (k : Nat) (X Y : List Nt) (O R : Option Addr) (dO dR : Nat), v18 = .int .i64 k ∧ v5 = .slice O X.length dO ∧ v6 = .slice R Y.length dR ∧ k ≤ n ∧ X.length ≤ k ∧ Y.length ≤ k ∧ Hid (X = (L.take k).filter fun x => decide (x.nTil ≤ now)) ∧ Hid (Y = (L.take k).filter fun x => decide (now < x.nTil)) ∧ Own eNt 3 wr w.heap.size 39 O dO X ∧ Own eNt 3 wr w.heap.size 39 R dR Y ∧ Hid (∀ q, blk O = some q → blk R ≠ some q) ∧ Below w.heap.size w wr) (fun _ _ v18 _ => n - (intOf v18).toNat)
  case atStart => exact ⟨0, [], [], none, none, 0, 0, rfl, rfl, rfl, Nat.zero_le _, Nat.le_refl _, Nat.le_refl _, rfl, rfl, Own.nil _ _ _, Own.nil _ _ _, (fun q h => by simp [blk] at h), Below.refl _ _⟩
  case round =>
    clear c0
    obtain ⟨k, X, Y, O, R, dO, dR, rfl, rfl, rfl, hk, hx, hy, hX, hY, hO, hR, hap, hB⟩ := hrel
    have hws := hB.size
    by_cases hlt : k < n
    · have hkL : k < L.length := by have := HN.out; omega
      obtain ⟨b, off, rfl, y0, y1, y2⟩ := ((HD.out.keep hB).o.sl eNt_ok).nt_at hkL
      have k0 : (0 : Int) ≤ (k : Int) := by omega
      have k1 : (k : Int) < (n : Int) := by omega
      have HT := Lib.hid (show L.take (k + 1) = L.take k ++ [L[k]] by rw [List.take_add_one]; simp [hkL])
      generalize L[k] = x at *
      have xk := Blk.new wr 39 #[.int .i64 x.nEnv, .int .i64 x.nFrm, .int .i64 x.nTil]
      have x0 := xk.cell 0 (.int .i64 x.nEnv) rfl
      have x1 := xk.cell 1 (.int .i64 x.nFrm) rfl
      have x2 := xk.cell 2 (.int .i64 x.nTil) rfl
      clear xk
      by_cases ht : x.nTil ≤ now
      · have H1 : Hid (X ++ [x] = (L.take (k + 1)).filter fun x => decide (x.nTil ≤ now)) := by unfold Hid; rw [HT.out, List.filter_append, ← hX.out]; simp [ht]
        have H2 : Hid (Y = (L.take (k + 1)).filter fun x => decide (now < x.nTil)) := by unfold Hid; rw [HT.out, List.filter_append, ← hY.out]; simp [show ¬ now < x.nTil by omega]
        go_wp2_with (at_builtin; refine wpList_append_sl _ rfl _ _ rfl elNt eNt_ok ((hO.alloc _).alloc _) (n := X.length) rfl rfl (m := 1) rfl (ys := [x]) rfl (Sl.new' eNt_ok _ x _ rfl _ (by simp)) (by simp only [maxLen]; omega) (by omega) (by simp; omega) _ rfl (X.length + 1) rfl ?_; intro A5 c5 w6 own6 hg6 at6; (have HW := Lib.hid (And.intro own6 (And.intro hg6 at6))); clear own6 hg6 at6)
        go_roundw
        case rel =>
          refine ⟨k + 1, X ++ [x], Y, A5, R, c5, dR, by go_num, by simp, rfl, by omega, by simp; omega, by omega, H1, H2, HW.out.1, ((hR.alloc _).alloc _).kept HW.out.2.1 ?_, ?_, ?_⟩
          · cases hb : blk R with
            | none => exact .inl rfl
            | some q => right; intro e; exact hap.out q e.symm hb
          · intro q hq e
            rcases HW.out.2.2 with h5 | h5
            · exact hap.out q (h5 ▸ hq) e
            · rw [h5] at hq
              injection hq with hq
              have := (hR.lt q e).2
              simp at hq
              omega
          · exact bgrow ((hB.alloc hB.size _).alloc (by simp; omega) _) HW.out.2.1 (fun q hq => (hO.lt q hq).1)
        case measure => simp [intOf]; omega
      · have H1 : Hid (X = (L.take (k + 1)).filter fun x => decide (x.nTil ≤ now)) := by unfold Hid; rw [HT.out, List.filter_append, ← hX.out]; simp [ht]
        have H2 : Hid (Y ++ [x] = (L.take (k + 1)).filter fun x => decide (now < x.nTil)) := by unfold Hid; rw [HT.out, List.filter_append, ← hY.out]; simp [show now < x.nTil by omega]
        go_wp2_with (at_builtin; refine wpList_append_sl _ rfl _ _ rfl elNt eNt_ok ((hR.alloc _).alloc _) (n := Y.length) rfl rfl (m := 1) rfl (ys := [x]) rfl (Sl.new' eNt_ok _ x _ rfl _ (by simp)) (by simp only [maxLen]; omega) (by omega) (by simp; omega) _ rfl (Y.length + 1) rfl ?_; intro A5 c5 w6 own6 hg6 at6; (have HW := Lib.hid (And.intro own6 (And.intro hg6 at6))); clear own6 hg6 at6)
        go_roundw
        case rel =>
          refine ⟨k + 1, X, Y ++ [x], O, A5, dO, c5, by go_num, rfl, by simp, by omega, by omega, by simp; omega, H1, H2, ((hO.alloc _).alloc _).kept HW.out.2.1 ?_, HW.out.1, ?_, ?_⟩
          · cases hb : blk O with
            | none => exact .inl rfl
            | some q => right; intro e; exact hap.out q hb e.symm
          · intro q hq e
            rcases HW.out.2.2 with h5 | h5
            · exact hap.out q hq (h5 ▸ e)
            · rw [h5] at e
              injection e with e
              have := (hO.lt q hq).2
              simp at e
              omega
          · exact bgrow ((hB.alloc hB.size _).alloc (by simp; omega) _) HW.out.2.1 (fun q hq => (hR.lt q hq).1)
        case measure => simp [intOf]; omega
    · obtain rfl : k = n := by omega
      have k1 : ¬ (k : Int) < (k : Int) := by omega
      have hb0 := HD.out.keep hB
      have d0 : wr.cell? ⟨g, 0, none⟩ = some (.slice A L.length c) := hb0.c0
      have f0 := hb0.b.frozen 0
      have hlg := hb0.lt
      have hbd := Bd.store hb0.b (hR.from_ (show g + 1 ≤ w.heap.size by omega)) hb0.v8 hb0.ok
      have hn1 : Ne g w (wr.setCell ⟨g, 0, none⟩ (.slice R Y.length dR)) := (Ne.keep (Nat.le_of_lt hgs) hB).trans (Ne.self (only_set (only_refl wr g) 0 _) hlg)
      have hO1 : Own eNt 3 (wr.setCell ⟨g, 0, none⟩ (.slice R Y.length dR)) w.heap.size 39 O dO X := hO.kept (only_set (only_refl wr g) 0 _) (by
        cases hb : blk O with
        | none => exact .inl rfl
        | some q => right; intro e; injection e with e; have := (hO.lt q hb).1; omega)
      have hXL : X = L.filter fun x => decide (x.nTil ≤ now) := by rw [hX.out, HN.out, List.take_length]
      have hYL : Y = L.filter fun x => decide (now < x.nTil) := by rw [hY.out, HN.out, List.take_length]
      have HXY := Lib.hid (And.intro hXL hYL)
      have HB0 := Lib.hid (And.intro hbd (And.intro hn1 hO1))
      clear hb0 hbd hn1 hO1 hXL hYL hX hY hO hR hB hlt
      rcases HB0.out.2.2.shape with ⟨rfl, rfl, rfl⟩ | ⟨q, rfl⟩
      · go_upto_region 12 with (fail)
        go_wp2_with fail
        with_reducible refine (sort_none _ _).mono ?_
        rintro e w2 ⟨rfl, rfl⟩
        go_wp2_with fail
        refine wp_loop_rounds 1 ?_
        rw [rounds_succ]
        go_wp2_with fail
        go_ret
        refine ⟨none, 0, [], R, dR, rfl, Own.nil _ _ _, List.Pairwise.nil, ?_, ?_, HB0.out.2.1⟩
        · rw [← HXY.out.1]; exact List.Perm.refl _
        · rw [← HXY.out.2]; exact HB0.out.1
      · have hT0 : Rw w.heap.size (wr.setCell ⟨g, 0, none⟩ (.slice R Y.length dR)) q dO (retag 0 X) := by
          have := HB0.out.2.2
          unfold Rw Own at *
          rw [retag_flat, retag_len]
          exact this
        have hS := Lib.hid (sort_any w.heap.size q dO X.length (retag 0 X) _ hT0 (retag_len X 0) (retag_rise X) (by omega))
        have hX5 : X.length ≤ 500 := by omega
        obtain ⟨m, hm⟩ : ∃ m, m = X.length := ⟨_, rfl⟩
        rw [← hm] at hS hX5
        have HM := Lib.hid hm
        have hqg : q ≠ g := fun e => by have := (HB0.out.2.2.lt q rfl).1; omega
        clear hT0
        go_upto_region 12 with (fail)
        simp only [← hm]
        clear hm
        go_wp2_with fail
        with_reducible refine hS.out.mono ?_
        rintro e w2 ⟨rfl, ⟨T, hT, hSr, hP⟩, hSw⟩
        have hmT : T.length = m := by rw [hP.length_eq, retag_len]; exact HM.out.symm
        have hbd2 : Bd w2 g R dR Y VS := ⟨hSw.blk HB0.out.1.b ⟨HB0.out.1.lt, Ne.symm hqg⟩, HB0.out.1.o.kp hSw (fun k hk => ⟨(HB0.out.1.o.lt k hk).2, fun e => hap.out q rfl (e ▸ hk)⟩), HB0.out.1.v8, HB0.out.1.ok⟩
        have hn2 : Ne g w w2 := HB0.out.2.1.trans ⟨Kp.low hSw (fun b hb => ⟨Nat.lt_trans hb HB0.out.1.lt, fun e => by have := (HB0.out.2.2.lt q rfl).1; omega⟩), hSw.mono fun b ⟨_, t, cs, h2, h3⟩ => ⟨h2.lt, fun e => by subst e; obtain ⟨cs', h4⟩ := HB0.out.2.2.ty b rfl; exact blk_ne h2 h4 h3 rfl⟩⟩
        have hTE : Hid (∀ x ∈ T, 0 ≤ x.nEnv ∧ x.nEnv < 8) := fun x hx => by
          obtain ⟨z, hz, h1, _⟩ := retag_mem (hP.mem_iff.1 hx)
          rw [h1]
          refine HE.out z ?_
          rw [HXY.out.1] at hz
          exact (List.mem_filter.1 hz).1
        have HSP := Lib.hid (And.intro hSr hP)
        clear hSr hP hSw hS HB0 d0 f0 hlg hap
        go_wp2_with fail
        go_loopw [43] (fun v43 ws => ∃ j : Nat, v43 = .int .i64 j ∧ j ≤ m ∧ Bd ws g R dR Y ((T.take j).foldl putVS VS) ∧ Rw w.heap.size ws q dO T ∧ Ne g w ws) (fun v43 _ => m - (intOf v43).toNat)
        case atStart => exact ⟨0, rfl, Nat.zero_le _, hbd2, hT, hn2⟩
        case round =>
          clear hbd2 hT hn2
          obtain ⟨j, rfl, hj, hbd, hT, hn⟩ := hrel
          by_cases hlt : j < m
          · have hjT : j < T.length := by omega
            obtain ⟨y0, y1, y2⟩ := rw_at hT hjT
            rw [atT_get hjT] at y0 y1 y2
            have HTK := Lib.hid (show T.take (j + 1) = T.take j ++ [T[j]] by rw [List.take_add_one]; simp [hjT])
            have hx := hTE.out T[j] (List.getElem_mem hjT)
            have j1 : (j : Int) < (m : Int) := by omega
            generalize T[j] = x at *
            obtain ⟨e, he⟩ := Int.eq_ofNat_of_zero_le hx.1
            have he8 : e < 8 := by omega
            rw [he] at y0
            have xk := Blk.new wr 39 #[.int .i64 (e : Int), .int .i64 x.nFrm, .int .i64 x.nTil]
            have hbd1 := hbd.keep (below1 wr (Obj.cells #[.int .i64 (e : Int), .int .i64 x.nFrm, .int .i64 x.nTil] 39))
            have hT1 := hT.alloc (Obj.cells #[.int .i64 (e : Int), .int .i64 x.nFrm, .int .i64 x.nTil] 39)
            have hn1 := hn.below (Nat.le_of_lt hgs) (below1 wr (Obj.cells #[.int .i64 (e : Int), .int .i64 x.nFrm, .int .i64 x.nTil] 39))
            have HX := Lib.hid (And.intro hx he)
            have HK := Lib.hid (And.intro hbd1 (And.intro hT1 hn1))
            clear hx he hbd hT hn hbd1 hT1 hn1
            go_upto_region 16 with (fail)
            generalize wr.alloc (Obj.cells #[.int .i64 (e : Int), .int .i64 x.nFrm, .int .i64 x.nTil] 39) = w3 at *
            generalize wr.heap.size = zb at *
            have x0 := xk.cell 0 (.int .i64 (e : Int)) rfl
            have x1 := xk.cell 1 (.int .i64 x.nFrm) rfl
            have e0 : (0 : Int) ≤ (e : Int) := by omega
            have hbd3 := HK.out.1.keep (Below.refl w3.heap.size w3).drew
            have hPut := Lib.hid (put_any g (1 + e * 17) _ _ _ _ x.nFrm _ (hbd3.vec he8))
            have HB3 := Lib.hid hbd3
            clear hbd3
            go_region_with ((go_at_call 21; with_reducible refine hPut.out.mono ?_; rintro e9 w4 ⟨rfl, hv4, hg4⟩))
            all_goals
              have he := HX.out.2
              have het : x.nEnv.toNat = e := by omega
              have hbd5 := HB3.out.of_vec (w' := w4) HX.out.1 (by rw [het]; exact hv4) hg4
              have hT5 : Rw w.heap.size w4 q dO T := (HK.out.2.1.drew).kept hg4 (.inr (by simp [blk]; exact hqg))
              have hn5 : Ne g w w4 := HK.out.2.2.trans ((Ne.keep (Nat.le_of_lt HK.out.1.lt) (Below.refl w3.heap.size w3).drew).trans (Ne.self hg4 HB3.out.lt))
              have HZ := Lib.hid (And.intro hbd5 (And.intro hT5 hn5))
              clear he het hbd5 hT5 hn5 hv4 hg4 HB3 HK hPut xk x0 x1 y0 y1 y2
              go_wp2_with fail
              go_roundw
              case rel => exact ⟨j + 1, by go_num, by omega, by rw [HTK.out, List.foldl_append]; exact HZ.out.1, HZ.out.2.1, HZ.out.2.2⟩
              case measure => simp [intOf]; omega
          · obtain rfl : j = m := by omega
            have j1 : ¬ (j : Int) < (j : Int) := by omega
            have HF := Lib.hid (And.intro hbd (And.intro hT hn))
            clear hbd hT hn
            go_wp2_with fail
            go_ret
            refine ⟨some ⟨q, 0, none⟩, dO, T, R, dR, ?_, HF.out.2.1, HSP.out.1, ?_, ?_, HF.out.2.2⟩
            · rw [hmT]; rfl
            · rw [← HXY.out.1]; exact HSP.out.2
            · have := HF.out.1
              rw [List.take_of_length_le (by omega)] at this
              rw [← HXY.out.2]; exact this
end Go.Proofs.Ytdfklbjkcednhaa
