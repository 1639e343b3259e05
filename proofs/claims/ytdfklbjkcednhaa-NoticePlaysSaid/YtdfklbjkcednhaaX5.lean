/- Walk: the statement NoticePlays. -/
import Derived.Test.YtdfklbjkcednhaaX4
namespace Go.Proofs.Ytdfklbjkcednhaa
open Go.RowKit Go.Lib

/-- a list of the document's, its block known by its type -/
def SlT (w : World) (O : Option Addr) (X : List Nt) : Prop := Sl eNt 3 w O X ∧ ∀ q, blk O = some q → ∃ cs, Blk w q 64 cs
theorem SlT.keep {w w' : World} {O : Option Addr} {X : List Nt} (h : SlT w O X) (hb : Below w.heap.size w w') : SlT w' O X := ⟨h.1.keep hb, fun q hq => (h.2 q hq).imp fun _ k => k.keep hb⟩
theorem SlT.grown {w w' : World} {O : Option Addr} {X : List Nt} {u : Nat} {cs : Array Value} (h : SlT w O X) (hu : Blk w u 47 cs) (hg : w.grownBy w' (some u)) : SlT w' O X := by
  have hne : ∀ q, blk O = some q → q ≠ u := fun q hq => by
    obtain ⟨c2, h2⟩ := h.2 q hq
    exact blk_ne h2 hu (by decide)
  exact ⟨h.1.grown hg (fun r hr e => by injection hr with hr; exact hne r e hr.symm), fun q hq => (h.2 q hq).imp fun _ k2 => k2.grown hg (fun e => by injection e with e; exact hne q hq e)⟩

set_option maxRecDepth 100000 in
set_option maxHeartbeats 8000000 in
theorem plays_any (A2 : Option Addr) (l : List ActS) (c2 : Nat) (w : World) (hs2 : Sl eA 5 w A2 l) (hl2 : l.length ≤ 9223372036854775807) :
    Calls Try.prog 4 #[.slice A2 l.length c2] w fun e w' => e = .returned (.bool true) ∧ Below w.heap.size w w' := by
  have hz := zero_board
  have hzr := zero_rd
  have HI := Lib.hid (rd_info (eRd x0) rfl)
  go_enter Try.func4, Try.ntmps4
  go_wp2_with fail
  refine (awake_any _).mono ?_
  rintro e w1 ⟨rfl, hB⟩
  have hgB : w.heap.size ≤ w1.heap.size := hB.size
  obtain ⟨h, hh⟩ : ∃ h, h = w1.heap.size + 1 := ⟨_, rfl⟩
  have hhg : h ≠ w1.heap.size := by omega
  have hhB : w.heap.size ≤ h := by omega
  have b1 : Blk ((w1.alloc (Obj.cells zeroB 31)).alloc (Obj.cells zeroRd 47)) h 47 zeroRd := Blk.new' _ _ _ (by rw [hh]; simp)
  have HTh : Hid (((w1.alloc (Obj.cells zeroB 31)).alloc (Obj.cells zeroRd 47)).there h 0 (eRd x0).toArray.size) := b1.there (Nat.le_refl _)
  have hB1 : Below w.heap.size w ((w1.alloc (Obj.cells zeroB 31)).alloc (Obj.cells zeroRd 47)) := (hB.alloc hB.size _).alloc (by simp; have := hB.size; omega) _
  have hd1 := (Bd.new w1 rfl).keep (below1 (w1.alloc (Obj.cells zeroB 31)) (Obj.cells zeroRd 47))
  have hH1 := Half.laid (x := x0) (x' := x0) hd1 b1 (x0_ok _) hhg rfl
  have HS := Lib.hid (And.intro (show TwoS _ w1.heap.size h [] from ⟨_, _, _, _, hH1, rfl, x0_vs, fun y hy => absurd hy (List.not_mem_nil)⟩) (below_only hB1 (grown_setCells h (eRd x0) 0 _ _ (only_refl _ _)) hhB))
  clear b1 hB1 hd1 hH1 hB
  go_upto_region 4 with (simp only [← hh]; refine wpList_store_mid rfl 47 _ _ rfl h 0 (eRd x0).toArray rfl rfl HTh.out (by simpa using HI.out) (all_oneCell_toArray (eRd_one x0)) ?_)
  clear HTh hh HI
  generalize ((w1.alloc (Obj.cells zeroB 31)).alloc (Obj.cells zeroRd 47)).setCells h 0 (eRd x0) = w2 at *
  generalize w1.heap.size = g at *
  have HZR := Lib.hid (show zeroRd.size = 9 from rfl)
  generalize zeroB = zB at *
  generalize zeroRd = zR at *
  go_wp2_with fail
  go_loopw [5] (fun v5 wr => ∃ (i : Nat) (L : List Nt), v5 = .int .i64 i ∧ i ≤ l.length ∧ i ≤ 100 ∧ L.length ≤ i ∧ Hid (TwoS wr g h L) ∧ Hid (Below w.heap.size w wr)) (fun v5 _ => 100 - (intOf v5).toNat)
  case atStart => exact ⟨0, [], rfl, Nat.zero_le _, by omega, Nat.le_refl _, HS.out.1, HS.out.2⟩
  case round =>
    clear HS
    obtain ⟨i, L, rfl, hi1, hi2, hLi, HT, HB⟩ := hrel
    by_cases hlt : i < l.length ∧ i < 100
    · obtain ⟨hlt, hlt2⟩ := hlt
      obtain ⟨b, off, rfl, a0, a1, a2, a3, a4⟩ := (hs2.keep HB.out).act_at hlt
      have k0 : (0 : Int) ≤ (i : Int) := by omega
      have k1 : (i : Int) < (l.length : Int) := by omega
      generalize l[i] = a at *
      have bA := Blk.new wr 35 #[.int .i64 a.kind, .int .i64 a.env, .int .i64 a.frm, .int .i64 a.now, .int .i64 a.grc]
      obtain ⟨A, c, VS, x, hH, rfl, hxT, hEn⟩ := HT.out
      replace hH := hH.keep (below1 wr (Obj.cells #[.int .i64 a.kind, .int .i64 a.env, .int .i64 a.frm, .int .i64 a.now, .int .i64 a.grc] 35))
      have hB := HB.out.alloc HB.out.size (Obj.cells #[.int .i64 a.kind, .int .i64 a.env, .int .i64 a.frm, .int .i64 a.now, .int .i64 a.grc] 35)
      go_upto_region 8 with (fail)
      generalize wr.alloc (Obj.cells #[.int .i64 a.kind, .int .i64 a.env, .int .i64 a.frm, .int .i64 a.now, .int .i64 a.grc] 35) = wb at *
      have hzg : wr.heap.size ≠ g := blk_ne bA hH.bd.b (by decide)
      have hzh : wr.heap.size ≠ h := blk_ne bA hH.bx (by decide)
      generalize wr.heap.size = z at *
      have z0 := bA.cell 0 (.int .i64 a.kind) rfl
      have z1 := bA.cell 1 (.int .i64 a.env) rfl
      have z2 := bA.cell 2 (.int .i64 a.frm) rfl
      have z3 := bA.cell 3 (.int .i64 a.now) rfl
      have z4 := bA.cell 4 (.int .i64 a.grc) rfl
      have hl5 : x.rL.length ≤ 500 := by omega
      have h8 := hH.ok.t8
      have hlen := eRd_len hH.ok
      obtain ⟨M, hM⟩ : ∃ M, M = eRd x := ⟨_, rfl⟩
      rw [← hM] at hlen
      have hbx := hH.bx
      rw [← hM] at hbx
      have HX := Lib.hid (And.intro hbx (And.intro (rd_info M hlen) (And.intro hM hlen)))
      have HL := Lib.hid (And.intro hH (And.intro hB (And.intro bA (And.intro hxT (And.intro hEn h8)))))
      clear hH hB bA hxT hEn h8 hlen hM hbx a0 a1 a2 a3 a4 HT HB
      by_cases hk1 : a.kind = 1
      · have e1 : (a.kind == 1) = true := by simp [hk1]
        clear hk1
        have hR := rgiven_any x a.env a.frm wb HL.out.1.ok hl5
        rw [← HX.out.2.2.1] at hR
        have HR := Lib.hid hR
        clear hR
        go_wp2_with (refine wpList_load_mid rfl 47 _ rfl h 0 rfl M _ HX.out.1.range Try.underlying47 rfl HX.out.2.1 ?_)
        with_reducible refine HR.out.mono ?_
        rintro e w3 ⟨x', rfl, hok, hxL', hxT', hb⟩
        obtain ⟨M2, hM2⟩ : ∃ M2, M2 = eRd x' := ⟨_, rfl⟩
        have hl2 : M2.length = 9 := by rw [hM2]; exact eRd_len hok
        rw [← hM2]
        have HM := Lib.hid (And.intro hM2 (And.intro (rd_info M2 hl2) (And.intro (show ∀ u ∈ M2, u.oneCell' = true by rw [hM2]; exact eRd_one _) (show zR.size = M2.length by rw [HZR.out, hl2]))))
        have H3 := Lib.hid (And.intro (HL.out.1.keep hb) (And.intro hok (And.intro (bstep HL.out.2.1 (Nat.le_refl _) hb) (HL.out.2.2.1.keep hb))))
        have HXL := Lib.hid (And.intro hxL' hxT')
        clear z0 z1 z2 z3 z4
        clear hb hok hxL' hxT' hM2 hl2
        go_upto_region 16 with (first | (refine wpList_store_box w3 47 zR M2 rfl _ _ rfl rfl rfl HM.out.2.2.2 HM.out.2.1 HM.out.2.2.1 ?_; intro w4 b4 hb4 hz4; (have H4 := Lib.hid (And.intro b4 (And.intro (H3.out.1.keep hb4) (And.intro (H3.out.2.1.keep hb4) (And.intro (bstep H3.out.2.2.1 (Nat.le_refl _) hb4) (H3.out.2.2.2.keep hb4)))))); skip; clear b4 hb4 hz4) | (refine wpList_load_mid rfl 47 _ rfl w3.heap.size 0 rfl M2 _ H4.out.1.range Try.underlying47 rfl HM.out.2.1 ?_) | (refine wpList_store_mid rfl 47 _ _ rfl h 0 M2.toArray rfl rfl (H4.out.2.1.bx.there (by simp [eRd, HL.out.2.2.2.2.2, HM.out.2.2.2.symm, HZR.out])) (by simpa using HM.out.2.1) (all_oneCell_toArray HM.out.2.2.1) ?_))
        have hG6 := grown_setCells h M2 0 _ _ (only_refl w4 h)
        have h6 := Half.laid H4.out.2.1.bd H4.out.2.1.bx H4.out.2.2.1 hhg HL.out.2.2.2.2.2
        rw [← HM.out.1] at h6
        have bA6 := H4.out.2.2.2.2.grown hG6 (fun e => by injection e with e; exact hzh e)
        have H6 := Lib.hid (And.intro h6 (And.intro (below_only H4.out.2.2.2.1 hG6 hhB) bA6))
        clear hG6 h6
        generalize w4.setCells h 0 M2 = w6 at *
        have z1 := bA6.cell 1 (.int .i64 a.env) rfl
        have z2 := bA6.cell 2 (.int .i64 a.frm) rfl
        have z3 := bA6.cell 3 (.int .i64 a.now) rfl
        have z4 := bA6.cell 4 (.int .i64 a.grc) rfl
        clear bA6 H4 H3
        have hP := pgiven_any a.env a.frm w6 H6.out.1.bd hl5
        obtain ⟨bv, hbv⟩ : ∃ bv, (fiN x.rL a.env a.frm).isSome = bv := ⟨_, rfl⟩
        rw [hbv] at hP ⊢
        have HP := Lib.hid hP
        have hNl := givL_len x.rL a.env a.frm
        have HNe := Lib.hid (givL_env (e := a.env) (f := a.frm) HL.out.2.2.2.2.1)
        generalize givL x.rL a.env a.frm = NL at *
        clear hP hbv HR
        go_wp2_with fail
        with_reducible refine HP.out.mono ?_
        rintro e w7 ⟨A7, c7, rfl, hd7, hn7⟩
        have h7 := H6.out.1.turn hd7 hn7 hhg
        have HB7 := Lib.hid (H6.out.2.1.trans (hn7.b.mono hgB))
        have hxL7 := HXL.out.1
        have hxT7 := HXL.out.2.trans HL.out.2.2.2.1
        have hNi : NL.length ≤ i + 1 := by omega
        clear hd7 hn7 H6 HXL z1 z2 z3 z4 HP
        cases bv
        all_goals
          have hsame := same_any x' w7 (by rw [hxL7]; exact h7.bd) h7.ok (by rw [hxL7]; omega) hxT7
          rw [← HM.out.1] at hsame
          have hb7 := h7.bx
          rw [← HM.out.1] at hb7
          have HZ := Lib.hid (And.intro hsame (And.intro hb7 (And.intro h7 (And.intro hxL7 hxT7))))
          clear hsame hb7 h7 hxL7 hxT7
          go_wp2_with (refine wpList_load_mid rfl 47 _ rfl h 0 rfl M2 _ HZ.out.2.1.range Try.underlying47 rfl HM.out.2.1 ?_)
          with_reducible refine HZ.out.1.mono ?_
          rintro e w8 ⟨rfl, hb8⟩
          have HF : Hid (TwoS w8 g h NL ∧ Below w.heap.size w w8) := ⟨⟨_, _, _, _, HZ.out.2.2.1.keep hb8, HZ.out.2.2.2.1, HZ.out.2.2.2.2, HNe.out⟩, bstep HB7.out (Nat.le_refl _) hb8⟩
          clear HZ HNe HB7 hb8
          go_wp2_with fail
          go_roundw
          case rel => exact ⟨i + 1, NL, by go_num, by omega, by omega, by omega, HF.out.1, HF.out.2⟩
          case measure => simp [intOf]; omega
      · have e1 : (a.kind == 1) = false := by simpa using hk1
        clear hk1
        by_cases hk2 : a.kind = 2
        · have e2 : (a.kind == 2) = true := by simp [hk2]
          clear hk2
          have hR := rover_any x a.now wb HL.out.1.ok hl5 HL.out.2.2.2.2.1
          rw [← HX.out.2.2.1] at hR
          have HR := Lib.hid hR
          clear hR
          go_wp2_with (refine wpList_load_mid rfl 47 _ rfl h 0 rfl M _ HX.out.1.range Try.underlying47 rfl HX.out.2.1 ?_)
          with_reducible refine HR.out.mono ?_
          rintro e w3 ⟨O, dO, X, x', rfl, hsl3, hty3, hov3, hok, hxL', hxT', hb⟩
          rw [ov_left] at hxL'
          obtain ⟨m, hm⟩ : ∃ m, m = X.length := ⟨_, rfl⟩
          have hmL : m ≤ x.rL.length := by
            rw [hm, hov3.len]
            unfold ovF
            exact Nat.le_trans (List.length_filter_le _ _) (by rw [List.length_take]; omega)
          simp only [← hm]
          have HOV := Lib.hid (And.intro hov3 hm)
          have HS3 := Lib.hid (show SlT w3 O X from ⟨hsl3, hty3⟩)
          clear hsl3 hty3 hov3 hm
          obtain ⟨M2, hM2⟩ : ∃ M2, M2 = eRd x' := ⟨_, rfl⟩
          have hl2 : M2.length = 9 := by rw [hM2]; exact eRd_len hok
          rw [← hM2]
          have HM := Lib.hid (And.intro hM2 (And.intro (rd_info M2 hl2) (And.intro (show ∀ u ∈ M2, u.oneCell' = true by rw [hM2]; exact eRd_one _) (show zR.size = M2.length by rw [HZR.out, hl2]))))
          have H3 := Lib.hid (And.intro (HL.out.1.keep hb) (And.intro hok (And.intro (bstep HL.out.2.1 (Nat.le_refl _) hb) (HL.out.2.2.1.keep hb))))
          have HXL := Lib.hid (And.intro hxL' hxT')
          clear z0 z1 z2 z3 z4
          clear hb hok hxL' hxT' hM2 hl2
          go_upto_region 21 with (first | (refine wpList_store_box w3 47 zR M2 rfl _ _ rfl rfl rfl HM.out.2.2.2 HM.out.2.1 HM.out.2.2.1 ?_; intro w4 b4 hb4 hz4; (have H4 := Lib.hid (And.intro b4 (And.intro (H3.out.1.keep hb4) (And.intro (H3.out.2.1.keep hb4) (And.intro (bstep H3.out.2.2.1 (Nat.le_refl _) hb4) (H3.out.2.2.2.keep hb4)))))); (have HS4 := Lib.hid (HS3.out.keep hb4)); clear b4 hb4 hz4) | (refine wpList_load_mid rfl 47 _ rfl w3.heap.size 0 rfl M2 _ H4.out.1.range Try.underlying47 rfl HM.out.2.1 ?_) | (refine wpList_store_mid rfl 47 _ _ rfl h 0 M2.toArray rfl rfl (H4.out.2.1.bx.there (by simp [eRd, HL.out.2.2.2.2.2, HM.out.2.2.2.symm, HZR.out])) (by simpa using HM.out.2.1) (all_oneCell_toArray HM.out.2.2.1) ?_))
          have hG6 := grown_setCells h M2 0 _ _ (only_refl w4 h)
          have h6 := Half.laid H4.out.2.1.bd H4.out.2.1.bx H4.out.2.2.1 hhg HL.out.2.2.2.2.2
          rw [← HM.out.1] at h6
          have bA6 := H4.out.2.2.2.2.grown hG6 (fun e => by injection e with e; exact hzh e)
          have H6 := Lib.hid (And.intro h6 (And.intro (below_only H4.out.2.2.2.1 hG6 hhB) bA6))
          have HS6 := Lib.hid (HS4.out.grown H4.out.2.1.bx hG6)
          clear HS4
          clear hG6 h6
          generalize w4.setCells h 0 M2 = w6 at *
          have z1 := bA6.cell 1 (.int .i64 a.env) rfl
          have z2 := bA6.cell 2 (.int .i64 a.frm) rfl
          have z3 := bA6.cell 3 (.int .i64 a.now) rfl
          have z4 := bA6.cell 4 (.int .i64 a.grc) rfl
          clear bA6 H4 H3
          have hP := over_any a.now w6 H6.out.1.bd hl5 HL.out.2.2.2.2.1
          have HP := Lib.hid hP
          clear hP HR
          go_wp2_with fail
          with_reducible refine HP.out.mono ?_
          rintro e w7 ⟨O7, d7, T, A7, c7, rfl, hO7, hSr, hPm, hd7, hn7⟩
          have hTX : T = X := ov_same hSr hPm HOV.out.1
          subst hTX
          rw [← HOV.out.2]
          have hA := are_any O7 O T m d7 dO w7 (hO7.sl eNt_ok) (HS6.out.1.ne HS6.out.2 H6.out.1.bd hn7) HOV.out.2.symm (by omega)
          have HA := Lib.hid hA
          have hTE : ∀ y ∈ T, 0 ≤ y.nEnv ∧ y.nEnv < 8 := fun y hy => by
            obtain ⟨u, hu, h1, _⟩ := retag_mem (hPm.mem_iff.1 hy)
            rw [h1]
            exact HL.out.2.2.2.2.1 u (List.mem_filter.1 hu).1
          have hxT8 : x'.rT.map Td.tV = (T.foldl putVS VS).map cntV := by
            rw [HXL.out.2, HL.out.2.2.2.1, cnt_fold HL.out.1.bd.v8 HL.out.1.bd.ok hTE]
          have h9 := H6.out.1.turn hd7 hn7 hhg
          have HB9 := Lib.hid (H6.out.2.1.trans (hn7.b.mono hgB))
          have hNl := List.length_filter_le (fun y : Nt => decide (a.now < y.nTil)) x.rL
          have HNe : Hid (∀ y ∈ x.rL.filter (fun y : Nt => decide (a.now < y.nTil)), 0 ≤ y.nEnv ∧ y.nEnv < 8) := fun y hy => HL.out.2.2.2.2.1 y (List.mem_filter.1 hy).1
          have hxL8 := HXL.out.1
          have HH := Lib.hid (And.intro h9 (And.intro hxL8 hxT8))
          generalize (x.rL.filter fun y : Nt => decide (a.now < y.nTil)) = NL at *
          generalize T.foldl putVS VS = VS7 at *
          clear hA hO7 hSr hPm hd7 hn7 H6 HXL z1 z2 z3 z4 HP h9 hxL8 hxT8 hTE HS6 HOV
          go_wp2_with fail
          with_reducible refine HA.out.mono ?_
          rintro e w10 ⟨rfl, hb10⟩
          have h7 := HH.out.1.keep hb10
          have HB7 := Lib.hid (bstep HB9.out (Nat.le_refl _) hb10)
          have hxL7 := HH.out.2.1
          have hxT7 := HH.out.2.2
          have hNi : NL.length ≤ i + 1 := by omega
          clear HA HH HB9 hb10
          have hsame := same_any x' w10 (by rw [hxL7]; exact h7.bd) h7.ok (by rw [hxL7]; omega) hxT7
          rw [← HM.out.1] at hsame
          have hb7 := h7.bx
          rw [← HM.out.1] at hb7
          have HZ := Lib.hid (And.intro hsame (And.intro hb7 (And.intro h7 (And.intro hxL7 hxT7))))
          clear hsame hb7 h7 hxL7 hxT7
          go_wp2_with (refine wpList_load_mid rfl 47 _ rfl h 0 rfl M2 _ HZ.out.2.1.range Try.underlying47 rfl HM.out.2.1 ?_)
          with_reducible refine HZ.out.1.mono ?_
          rintro e w8 ⟨rfl, hb8⟩
          have HF : Hid (TwoS w8 g h NL ∧ Below w.heap.size w w8) := ⟨⟨_, _, _, _, HZ.out.2.2.1.keep hb8, HZ.out.2.2.2.1, HZ.out.2.2.2.2, HNe.out⟩, bstep HB7.out (Nat.le_refl _) hb8⟩
          clear HZ HNe HB7 hb8
          go_wp2_with fail
          go_roundw
          case rel => exact ⟨i + 1, NL, by go_num, by omega, by omega, by omega, HF.out.1, HF.out.2⟩
          case measure => simp [intOf]; omega
        · have e2 : (a.kind == 2) = false := by simpa using hk2
          clear hk2
          have hR := rwant_any x a.env a.frm a.now a.grc wb HL.out.1.ok hl5
          rw [← HX.out.2.2.1] at hR
          have HR := Lib.hid hR
          clear hR
          go_wp2_with (refine wpList_load_mid rfl 47 _ rfl h 0 rfl M _ HX.out.1.range Try.underlying47 rfl HX.out.2.1 ?_)
          with_reducible refine HR.out.mono ?_
          rintro e w3 ⟨x', rfl, hok, hxL', hxT', hb⟩
          obtain ⟨M2, hM2⟩ : ∃ M2, M2 = eRd x' := ⟨_, rfl⟩
          have hl2 : M2.length = 9 := by rw [hM2]; exact eRd_len hok
          rw [← hM2]
          have HM := Lib.hid (And.intro hM2 (And.intro (rd_info M2 hl2) (And.intro (show ∀ u ∈ M2, u.oneCell' = true by rw [hM2]; exact eRd_one _) (show zR.size = M2.length by rw [HZR.out, hl2]))))
          have H3 := Lib.hid (And.intro (HL.out.1.keep hb) (And.intro hok (And.intro (bstep HL.out.2.1 (Nat.le_refl _) hb) (HL.out.2.2.1.keep hb))))
          have HXL := Lib.hid (And.intro hxL' hxT')
          clear z0 z1 z2 z3 z4
          clear hb hok hxL' hxT' hM2 hl2
          go_upto_region 11 with (first | (refine wpList_store_box w3 47 zR M2 rfl _ _ rfl rfl rfl HM.out.2.2.2 HM.out.2.1 HM.out.2.2.1 ?_; intro w4 b4 hb4 hz4; (have H4 := Lib.hid (And.intro b4 (And.intro (H3.out.1.keep hb4) (And.intro (H3.out.2.1.keep hb4) (And.intro (bstep H3.out.2.2.1 (Nat.le_refl _) hb4) (H3.out.2.2.2.keep hb4)))))); skip; clear b4 hb4 hz4) | (refine wpList_load_mid rfl 47 _ rfl w3.heap.size 0 rfl M2 _ H4.out.1.range Try.underlying47 rfl HM.out.2.1 ?_) | (refine wpList_store_mid rfl 47 _ _ rfl h 0 M2.toArray rfl rfl (H4.out.2.1.bx.there (by simp [eRd, HL.out.2.2.2.2.2, HM.out.2.2.2.symm, HZR.out])) (by simpa using HM.out.2.1) (all_oneCell_toArray HM.out.2.2.1) ?_))
          have hG6 := grown_setCells h M2 0 _ _ (only_refl w4 h)
          have h6 := Half.laid H4.out.2.1.bd H4.out.2.1.bx H4.out.2.2.1 hhg HL.out.2.2.2.2.2
          rw [← HM.out.1] at h6
          have bA6 := H4.out.2.2.2.2.grown hG6 (fun e => by injection e with e; exact hzh e)
          have H6 := Lib.hid (And.intro h6 (And.intro (below_only H4.out.2.2.2.1 hG6 hhB) bA6))
          clear hG6 h6
          generalize w4.setCells h 0 M2 = w6 at *
          have z1 := bA6.cell 1 (.int .i64 a.env) rfl
          have z2 := bA6.cell 2 (.int .i64 a.frm) rfl
          have z3 := bA6.cell 3 (.int .i64 a.now) rfl
          have z4 := bA6.cell 4 (.int .i64 a.grc) rfl
          clear bA6 H4 H3
          have hP := pwant_any a.env a.frm a.now a.grc w6 H6.out.1.bd hl5
          obtain ⟨rv, hrv⟩ : ∃ rv, wantR x.rL a.env a.frm a.now a.grc = rv := ⟨_, rfl⟩
          rw [hrv] at hP ⊢
          have HP := Lib.hid hP
          have hNl := wantL_len x.rL a.env a.frm a.now a.grc
          have HNe := Lib.hid (wantL_env (e := a.env) (f := a.frm) (n := a.now) (k := a.grc) HL.out.2.2.2.2.1)
          generalize wantL x.rL a.env a.frm a.now a.grc = NL at *
          clear hP hrv HR
          go_wp2_with fail
          with_reducible refine HP.out.mono ?_
          rintro e w7 ⟨A7, c7, rfl, hd7, hn7⟩
          have h7 := H6.out.1.turn hd7 hn7 hhg
          have HB7 := Lib.hid (H6.out.2.1.trans (hn7.b.mono hgB))
          have hxL7 := HXL.out.1
          have hxT7 := HXL.out.2.trans HL.out.2.2.2.1
          have hNi : NL.length ≤ i + 1 := by omega
          clear hd7 hn7 H6 HXL z1 z2 z3 z4 HP
          have hsame := same_any x' w7 (by rw [hxL7]; exact h7.bd) h7.ok (by rw [hxL7]; omega) hxT7
          rw [← HM.out.1] at hsame
          have hb7 := h7.bx
          rw [← HM.out.1] at hb7
          have HZ := Lib.hid (And.intro hsame (And.intro hb7 (And.intro h7 (And.intro hxL7 hxT7))))
          clear hsame hb7 h7 hxL7 hxT7
          go_wp2_with (refine wpList_load_mid rfl 47 _ rfl h 0 rfl M2 _ HZ.out.2.1.range Try.underlying47 rfl HM.out.2.1 ?_)
          with_reducible refine HZ.out.1.mono ?_
          rintro e w8 ⟨rfl, hb8⟩
          have HF : Hid (TwoS w8 g h NL ∧ Below w.heap.size w w8) := ⟨⟨_, _, _, _, HZ.out.2.2.1.keep hb8, HZ.out.2.2.2.1, HZ.out.2.2.2.2, HNe.out⟩, bstep HB7.out (Nat.le_refl _) hb8⟩
          clear HZ HNe HB7 hb8
          go_wp2_with fail
          go_roundw
          case rel => exact ⟨i + 1, NL, by go_num, by omega, by omega, by omega, HF.out.1, HF.out.2⟩
          case measure => simp [intOf]; omega
    · by_cases h1 : i < l.length
      · obtain rfl : i = 100 := by omega
        have k1 : (100 : Int) < (l.length : Int) := by omega
        clear hlt h1 hi1 hi2 HT
        have HE0 := HB
        clear HB
        go_wp2_with fail
        with_reducible refine (nil_want _).mono ?_
        rintro e w20 ⟨rfl, hb⟩
        have HE1 := Lib.hid (bstep HE0.out (Nat.le_refl _) hb)
        clear HE0 hb
        go_wp2_with fail
        with_reducible refine (nil_given _).mono ?_
        rintro e w21 ⟨rfl, hb⟩
        have HE2 := Lib.hid (bstep HE1.out (Nat.le_refl _) hb)
        clear HE1 hb
        go_wp2_with fail
        with_reducible refine (nil_over _).mono ?_
        rintro e w22 ⟨rfl, hb⟩
        have HE3 := Lib.hid (bstep HE2.out (Nat.le_refl _) hb)
        clear HE2 hb
        go_wp2_with fail
        with_reducible refine (nil_list _).mono ?_
        rintro e w23 ⟨rfl, hb⟩
        have HE4 := Lib.hid (bstep HE3.out (Nat.le_refl _) hb)
        clear HE3 hb
        go_wp2_with fail
        with_reducible refine (nil_taken _).mono ?_
        rintro e w24 ⟨rfl, hb⟩
        have HE5 := Lib.hid (bstep HE4.out (Nat.le_refl _) hb)
        clear HE4 hb
        go_wp2_with fail
        with_reducible refine (out_taken _).mono ?_
        rintro e w25 ⟨rfl, hb⟩
        have HE6 := Lib.hid (bstep HE5.out (Nat.le_refl _) hb)
        clear HE5 hb
        go_wp2_with fail
        with_reducible refine (awake_any _).mono ?_
        rintro e w26 ⟨rfl, hb⟩
        have HE7 := Lib.hid (bstep HE6.out (Nat.le_refl _) hb)
        clear HE6 hb
        go_wp2_with fail
        go_ret
        exact ⟨rfl, HE7.out⟩
      · have k1 : ¬ (i : Int) < (l.length : Int) := by omega
        clear hlt h1 hi1 hi2 HT
        have HE0 := HB
        clear HB
        go_wp2_with fail
        with_reducible refine (nil_want _).mono ?_
        rintro e w20 ⟨rfl, hb⟩
        have HE1 := Lib.hid (bstep HE0.out (Nat.le_refl _) hb)
        clear HE0 hb
        go_wp2_with fail
        with_reducible refine (nil_given _).mono ?_
        rintro e w21 ⟨rfl, hb⟩
        have HE2 := Lib.hid (bstep HE1.out (Nat.le_refl _) hb)
        clear HE1 hb
        go_wp2_with fail
        with_reducible refine (nil_over _).mono ?_
        rintro e w22 ⟨rfl, hb⟩
        have HE3 := Lib.hid (bstep HE2.out (Nat.le_refl _) hb)
        clear HE2 hb
        go_wp2_with fail
        with_reducible refine (nil_list _).mono ?_
        rintro e w23 ⟨rfl, hb⟩
        have HE4 := Lib.hid (bstep HE3.out (Nat.le_refl _) hb)
        clear HE3 hb
        go_wp2_with fail
        with_reducible refine (nil_taken _).mono ?_
        rintro e w24 ⟨rfl, hb⟩
        have HE5 := Lib.hid (bstep HE4.out (Nat.le_refl _) hb)
        clear HE4 hb
        go_wp2_with fail
        with_reducible refine (out_taken _).mono ?_
        rintro e w25 ⟨rfl, hb⟩
        have HE6 := Lib.hid (bstep HE5.out (Nat.le_refl _) hb)
        clear HE5 hb
        go_wp2_with fail
        with_reducible refine (awake_any _).mono ?_
        rintro e w26 ⟨rfl, hb⟩
        have HE7 := Lib.hid (bstep HE6.out (Nat.le_refl _) hb)
        clear HE6 hb
        go_wp2_with fail
        go_ret
        exact ⟨rfl, HE7.out⟩
end Go.Proofs.Ytdfklbjkcednhaa
