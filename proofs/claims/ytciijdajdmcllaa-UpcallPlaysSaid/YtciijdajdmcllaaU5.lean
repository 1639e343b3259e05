/- Walk: the document's Put at an environment's row. -/
import Derived.Test.YtciijdajdmcllaaU4
namespace Go.Proofs.Ytciijdajdmcllaa
open Go.RowKit Go.Lib

theorem ren_false {k : Int} (h : ¬ renU k = true) : (k == 1) = false ∧ (k == 3) = false ∧ (k == 4) = false := by
  unfold renU at h
  cases h1 : (k == 1) <;> cases h3 : (k == 3) <;> cases h4 : (k == 4) <;> simp_all
theorem ren_true {k : Int} (h : renU k = true) : (k == 1) = true ∨ ((k == 1) = false ∧ (k == 3) = true) ∨ ((k == 1) = false ∧ (k == 3) = false ∧ (k == 4) = true) := by
  unfold renU at h
  cases h1 : (k == 1) <;> cases h3 : (k == 3) <;> cases h4 : (k == 4) <;> simp_all
/-- the copied row, with one upcall stored into it -/
theorem hit_pack {WR : World} {gr gu B : Nat} {A2 : Option Addr} {c2 : Nat} {L : List Up} {l2 : Int} {u : Up} {k : Nat} (b8 : Blk WR gr 49 #[.slice A2 L.length c2, .int .i64 l2]) (b5 : Blk WR gu 33 #[.int .i64 u.kind, .int .i64 u.a, .int .u64 u.b]) (hk : k < L.length) (hne : gu ≠ gr) (hBr : B ≤ gr)
    {A1 : Option Addr} {e1 : Nat} {w1 : World} (own1 : Own eP 3 w1 WR.heap.size 33 A1 e1 L) (hg1 : (WR.alloc (Obj.cells #[] 33)).grownBy w1 (blk (some (⟨WR.heap.size, 0, none⟩ : Addr)))) :
    ∃ q, A1 = some ⟨q, 0, none⟩ ∧ w1.cell? ⟨gr, 0, none⟩ = some (.slice A2 L.length c2) ∧ w1.frozen? ⟨gr, 0, none⟩ = false ∧
      (∃ w2, w2 = w1.setCell ⟨gr, 0, none⟩ (.slice (some ⟨q, 0, none⟩) L.length e1) ∧ w2.cell? ⟨gr, 0, none⟩ = some (.slice (some ⟨q, 0, none⟩) L.length e1) ∧ w2.cell? ⟨gu, 0, none⟩ = some (.int .i64 u.kind) ∧ w2.cell? ⟨gu, 1, none⟩ = some (.int .i64 u.a) ∧ w2.cell? ⟨gu, 2, none⟩ = some (.int .u64 u.b) ∧
        w2.frozen? ⟨q, k * 3, none⟩ = false ∧ w2.frozen? ⟨q, k * 3 + 1, none⟩ = false ∧ w2.frozen? ⟨q, k * 3 + 1 + 1, none⟩ = false ∧ (∃ v, w2.cell? ⟨q, k * 3, none⟩ = some v) ∧ (∃ v, w2.cell? ⟨q, k * 3 + 1, none⟩ = some v) ∧ (∃ v, w2.cell? ⟨q, k * 3 + 1 + 1, none⟩ = some v) ∧
        (put3 w2 q (k * 3) u).cell? ⟨gr, 0, none⟩ = some (.slice (some ⟨q, 0, none⟩) L.length e1) ∧ (put3 w2 q (k * 3) u).cell? ⟨gr, 1, none⟩ = some (.int .i64 l2) ∧ Sl eP 3 (put3 w2 q (k * 3) u) (some ⟨q, 0, none⟩) (L.set k u) ∧ L.length ≤ e1 ∧ WR.heap.size ≤ q ∧ q < (put3 w2 q (k * 3) u).heap.size ∧ Below B WR (put3 w2 q (k * 3) u)) := by
  rcases own1.shape with ⟨_, e, _⟩ | ⟨q, rfl⟩
  · rw [e] at hk; simp at hk
  have hq := own1.lt q rfl
  have hr := b8.lt
  have hu := b5.lt
  have hlow : ∀ j, j < WR.heap.size → w1.heap[j]? = WR.heap[j]? := fun j hj => (hg1.block j (by simp; omega) (by simp [blk]; omega)).trans (Below.heap_alloc WR _ j hj)
  have B8 : Blk w1 gr 49 #[.slice A2 L.length c2, .int .i64 l2] := (hlow gr hr).trans b8
  have B5 : Blk w1 gu 33 #[.int .i64 u.kind, .int .i64 u.a, .int .u64 u.b] := (hlow gu hu).trans b5
  have C8 := B8.set_ 0 (.slice (some ⟨q, 0, none⟩) L.length e1)
  have C5 := B5.far (p := ⟨gr, 0, none⟩) hne (.slice (some ⟨q, 0, none⟩) L.length e1)
  have own2 := own1.kept (only_set (only_refl w1 gr) 0 (.slice (some ⟨q, 0, none⟩) L.length e1)) (.inr (by simp [blk]; omega))
  refine ⟨q, rfl, B8.cell 0 _ rfl, B8.frozen 0, _, rfl, ?_⟩
  have hsz : w1.heap.size ≤ (w1.setCell ⟨gr, 0, none⟩ (.slice (some ⟨q, 0, none⟩) L.length e1)).heap.size := by simp [World.setCell]
  have hBw : Below B WR (w1.setCell ⟨gr, 0, none⟩ (.slice (some ⟨q, 0, none⟩) L.length e1)) := by
    refine ⟨hg1.os, hg1.tape, hg1.output, Nat.le_trans (by simp) (Nat.le_trans hg1.size hsz), fun j hj => ?_⟩
    exact (Below.heap_setCell w1 ⟨gr, 0, none⟩ _ j (by simp; omega)).trans (hlow j (by omega))
  generalize w1.setCell ⟨gr, 0, none⟩ (.slice (some ⟨q, 0, none⟩) L.length e1) = w2 at *
  have hp := put3_own own2 hk u
  have hcap := own2.cap
  have D8 := Blk.grown C8 hp.2 (by simp; omega)
  have m0 := own_room own2 (k * 3) (by omega)
  have m1 := own_room own2 (k * 3 + 1) (by omega)
  have m2 := own_room own2 (k * 3 + 1 + 1) (by omega)
  exact ⟨C8.cell 0 _ rfl, C5.cell 0 _ rfl, C5.cell 1 _ rfl, C5.cell 2 _ rfl, m0.2, m1.2, m2.2, Option.isSome_iff_exists.1 m0.1, Option.isSome_iff_exists.1 m1.1, Option.isSome_iff_exists.1 m2.1, D8.cell 0 _ rfl, D8.cell 1 _ rfl, hp.1.sl eP_ok, hcap, hq.1, Nat.lt_of_lt_of_le hq.2 (Nat.le_trans hsz hp.2.size), hBw.trans ⟨hp.2.os, hp.2.tape, hp.2.output, hp.2.size, fun j hj => hp.2.block j (by omega) (by simp; omega)⟩⟩

set_option maxRecDepth 100000 in
set_option maxHeartbeats 16000000 in
theorem rput_row (A : Option Addr) (c : Nat) (R : List RwS) (i : Nat) (u : Up) (w : World) (hQ : Qs w A c R) (hi : i < 8) (hu : okK u.kind = true) (hiR : i < R.length) (A2 : Option Addr) (c2 : Nat) (L : List Up) (l2 : Int) (hRi : R[i] = ⟨A2, c2, L, l2⟩) (hl8 : L.length ≤ 8) (h0 : 0 ≤ l2) (h1 : l2 ≤ 100000) :
    Calls Try.prog 12 #[.slice A 8 c, .int .i64 i, .agg #[.int .i64 u.kind, .int .i64 u.a, .int .u64 u.b]] w (RetQP A R ((R.map ctOf).set i (putC ⟨L, l2⟩ u)) (putE ⟨L, l2⟩ u) w) := by
  have hB := below1 w (Obj.cells #[.int .i64 u.kind, .int .i64 u.a, .int .u64 u.b] 33)
  have bu := Blk.new w 33 #[.int .i64 u.kind, .int .i64 u.a, .int .u64 u.b]
  have HN := Lib.hid (fun W => rname_any u.kind W)
  have hq := name_some hu
  have i0 : (0 : Int) ≤ (i : Int) := by omega
  have i1 : (i : Int) < 8 := by omega
  have i2 : ¬ (7 : Int) < (i : Int) := by omega
  have HQ := Lib.hid hQ
  have HI := Lib.hid hi
  have HRI := Lib.hid hRi
  have HM : Hid (R[i] ∈ R) := List.getElem_mem hiR
  have HS : Hid (Sl eP 3 w A2 L) := by
    have := hQ.sl _ HM.out
    rw [hRi] at this
    exact this
  have HCP : Hid (L.length ≤ c2) := by
    have := hQ.cap _ HM.out
    rw [hRi] at this
    exact this
  obtain ⟨qq, rfl, hx1, hx2⟩ := hQ.at_ hiR
  clear hx1 hx2
  have HAT : Hid (∀ W, Below w.heap.size w W → W.cell? ⟨qq, i * 2, none⟩ = some (.slice A2 L.length c2) ∧ W.cell? ⟨qq, i * 2 + 1, none⟩ = some (.int .i64 l2)) := fun W hW => by
    obtain ⟨q', e, c0, c1⟩ := (HQ.out.keep hW).at_ hiR
    injection e with e
    injection e with e
    subst e
    rw [HRI.out] at c0 c1
    exact ⟨c0, c1⟩
  have HFB : Hid (L ≠ [] → ∀ b, blk A2 = some b → FB (some ⟨qq, 0, none⟩) R b) := fun hL b hb => .inr ⟨_, HM.out, by rw [HRI.out]; exact hL, by rw [HRI.out]; exact hb⟩
  have HW : Hid (∀ W r, Below w.heap.size w W → Sl eP 3 W r.A r.L → r.L.length ≤ r.c → Calls Try.prog 20 #[.slice (some ⟨qq, 0, none⟩) 8 c, .int .i64 i, .agg #[.slice r.A r.L.length r.c, .int .i64 r.lost]] W (RetQ (some ⟨qq, 0, none⟩) R (R.set i r) W)) := fun W r hW hs hc => with_any _ c R i r W (HQ.out.keep hW) HI.out hs hc
  clear hQ hRi hi hu HM HRI hiR
  go_enter Try.func12, Try.ntmps12
  go_wp2_with fail
  refine (HN.out _).mono ?_
  rintro e w2 ⟨rfl, hb⟩
  replace bu := bu.keep hb
  replace hB := bstep hB (Nat.le_refl _) hb
  have hzu : w.heap.size < w2.heap.size := bu.lt
  have c0 := (HAT.out _ hB).1
  have c1 := (HAT.out _ hB).2
  clear hb HN
  have br := Blk.new w2 49 #[.slice A2 L.length c2, .int .i64 l2]
  have hbr := below1 w2 (Obj.cells #[.slice A2 L.length c2, .int .i64 l2] 49)
  have bu2 := bu.keep hbr
  have hB2 := bstep hB (Nat.le_refl _) hbr
  go_upto_block 0 with (fail)
  clear c0 c1 hbr bu hB hq
  have hzr : w2.heap.size < (w2.alloc (Obj.cells #[.slice A2 L.length c2, .int .i64 l2] 49)).heap.size := br.lt
  generalize w2.alloc (Obj.cells #[.slice A2 L.length c2, .int .i64 l2] 49) = W at *
  generalize w2.heap.size = gr at *
  go_cut [6, 7, 9] (fun s6 s7 s9 wx => s7 = .int .i64 0 ∧ Below W.heap.size W wx ∧ Hid (oldAt L u = none))
  case first =>
    go_wp2_with fail
    go_loopw [6, 7, 9] (fun s6 s7 s9 wr => ∃ k : Nat, k ≤ L.length ∧ s9 = .int .i64 k ∧ s7 = .int .i64 0 ∧ Below W.heap.size W wr ∧ Hid (renU u.kind = true → ∀ j, (hj : j < L.length) → j < k → sameU u L[j] = false)) (fun _ _ i _ => L.length - (intOf i).toNat)
    case atStart => exact ⟨0, Nat.zero_le _, rfl, rfl, Below.refl _ _, fun _ j hj h => absurd h (Nat.not_lt_zero _)⟩
    case round =>
      obtain ⟨k, hk, rfl, rfl, hBr, HA⟩ := hrel
      have b8 := br.keep hBr
      have b5 := bu2.keep hBr
      have r0 := b8.cell 0 (.slice A2 L.length c2) rfl
      have u0 := b5.cell 0 (.int .i64 u.kind) rfl
      have u1 := b5.cell 1 (.int .i64 u.a) rfl
      have u2' := b5.cell 2 (.int .u64 u.b) rfl
      by_cases hlt : k < L.length
      · have hBw := bstep hB2 (Nat.le_refl _) hBr
        obtain ⟨b0, off, rfl, y0, y1, y2⟩ := Sl.up_at (HS.out.keep hBw) hlt
        have k0 : (0 : Int) ≤ (k : Int) := by omega
        have k1 : (k : Int) < (L.length : Int) := by omega
        have HHit : Hid (renU u.kind = true → sameU u L[k] = true → oldAt L u = some k) := fun hr h => old_hit hr hlt h (fun j hj => HA.out hr j (by omega) hj)
        have HNx : Hid (sameU u L[k] = false → renU u.kind = true → ∀ j, (hj : j < L.length) → j < k + 1 → sameU u L[j] = false) := fun h hr j hj hjk => by
          by_cases he : j = k
          · subst he; exact h
          · exact HA.out hr j hj (by omega)
        clear HA
        generalize L[k] = o at *
        obtain ⟨hit, hhit⟩ : ∃ hit : Bool, hit = (renU u.kind && sameU u o) := ⟨_, rfl⟩
        have HH := Lib.hid hhit
        clear hhit
        go_upto_region 7 with (fail)
        go_cut [68] (fun s68 wx => s68 = .bool hit ∧ Below W.heap.size W wx)
        case first =>
          by_cases hr : renU u.kind = true
          rotate_left
          · obtain ⟨q1, q3, q4⟩ := ren_false hr
            have HF : Hid (hit = false) := by unfold Hid; rw [HH.out]; simp [hr]
            clear hr HHit HNx
            go_quiet (fail)
            go_wp2_with fail
            go_meet
            exact ⟨by rw [HF.out], bdrewN hBr _⟩
          · have hq := ren_true hr
            have HRU := Lib.hid hr
            clear hr HHit HNx
            rcases hq with q1 | ⟨q1, q3⟩ | ⟨q1, q3, q4⟩
            all_goals
              cases e1 : (o.kind == u.kind)
              · have HF : Hid (hit = false) := by unfold Hid; rw [HH.out]; unfold sameU; rw [e1]; simp
                go_quiet (fail)
                go_wp2_with fail
                go_meet
                exact ⟨by rw [HF.out], bdrewN hBr _⟩
              · cases e2 : (o.a == u.a)
                · have HF : Hid (hit = false) := by unfold Hid; rw [HH.out]; unfold sameU; rw [e1, e2]; simp
                  go_quiet (fail)
                  go_wp2_with fail
                  go_meet
                  exact ⟨by rw [HF.out], bdrewN hBr _⟩
                · have HF : Hid (hit = true) := by unfold Hid; rw [HH.out, HRU.out]; unfold sameU; rw [e1, e2]; rfl
                  go_quiet (fail)
                  go_wp2_with fail
                  go_meet
                  exact ⟨by rw [HF.out], bdrewN hBr _⟩
        case rest =>
          clear hBr b8 b5 r0 u0 u1 u2' y0 y1 y2 hBw
          obtain ⟨rfl, hBd⟩ := hcut
          cases hh : hit
          · subst hh
            have HN2 : Hid (renU u.kind = true → ∀ j, (hj : j < L.length) → j < k + 1 → sameU u L[j] = false) := fun hr => by
              refine HNx.out ?_ hr
              have := HH.out
              rw [hr] at this
              simpa using this.symm
            clear HHit HNx HH
            go_wp2_with fail
            go_roundw
            case rel => exact ⟨k + 1, by omega, by go_num, rfl, hBd, HN2.out⟩
            case measure => simp [intOf]; omega
          · subst hh
            have hrs : renU u.kind = true ∧ sameU u o = true := by have := HH.out.symm; simpa using this
            have HOL := Lib.hid (put_hit (r := ⟨L, l2⟩) (HHit.out hrs.1 hrs.2))
            clear HHit HNx HH hrs
            have b8 := br.keep hBd
            have b5 := bu2.keep hBd
            have hBw := bstep hB2 (Nat.le_refl _) hBd
            have HPK := Lib.hid (fun A1 e1 w1 h1 h2 => hit_pack (B := w.heap.size) (k := k) b8 b5 hlt (by omega) (by omega) (A1 := A1) (e1 := e1) (w1 := w1) h1 h2)
            have r0 := (b8.alloc (Obj.cells #[] 33)).cell 0 (.slice (some ⟨b0, off, none⟩) L.length c2) rfl
            have slL := (HS.out.keep hBw).alloc (Obj.cells #[] 33)
            have hO : Own eP 3 (wc.alloc (Obj.cells #[] 33)) wc.heap.size 33 (some ⟨wc.heap.size, 0, none⟩) 0 [] := Own.empty wc _ (Nat.le_refl _)
            have HBW := Lib.hid hBw
            clear b8 b5 hBd hBw br bu2 hB2 HAT HQ HS HFB
            go_wp2_with (at_builtin; refine wpList_append_sl _ rfl _ _ rfl elU eP_ok hO (n := 0) rfl rfl (m := L.length) rfl (ys := L) rfl slL (by simp only [maxLen]; omega) (by omega) (by simp) _ rfl L.length (by simp) ?_; intro A1 e1 w1 own1 hg1 at1; simp only [List.nil_append] at own1; obtain ⟨q, rfl, z0, z1, w3, hw3, z2, z3, z4, z5, z6, z7, z8, ⟨v9, z9⟩, ⟨v10, z10⟩, ⟨v11, z11⟩, z12, z13, z14, z15, z16, z17, z18⟩ := HPK.out A1 e1 w1 own1 hg1; (have HZ := Lib.hid (And.intro z14 (And.intro z15 (And.intro z16 (And.intro z17 z18))))); (subst hw3); (unfold put3 at z12 z13); (simp only [Nat.add_assoc, Nat.reduceAdd] at z12 z13 z11 z8); clear z14 z15 z16 z17 z18 own1 hg1 at1 r0 slL hO HPK)
            have hzq : w.heap.size ≤ wc.heap.size := HBW.out.size
            have hcl := HW.out (put3 (w1.setCell ⟨gr, 0, none⟩ (.slice (some ⟨q, 0, none⟩) L.length e1)) q (k * 3) u) ⟨some ⟨q, 0, none⟩, e1, L.set k u, l2⟩ (HBW.out.trans HZ.out.2.2.2.2) HZ.out.1 (by simpa using HZ.out.2.1)
            simp only [List.length_set] at hcl
            refine hcl.mono ?_
            rintro e w7 ⟨O, d, rfl, hq7, hO7, hb7⟩
            clear z0 z1 z2 z3 z4 z5 z6 z7 z8 z9 z10 z11 z12 z13 hcl
            go_wp2_with fail
            go_ret2
            rw [HOL.out.1, HOL.out.2]
            exact rput_end (r := ⟨some ⟨q, 0, none⟩, e1, L.set k u, l2⟩) (HBW.out.trans HZ.out.2.2.2.2) hq7 hO7 hb7 (fun _ b hb => by injection hb with hb; have hb' : q = b := hb; subst hb'; exact .inr ⟨Nat.le_trans hzq HZ.out.2.2.1, HZ.out.2.2.2.1⟩)
      · obtain rfl : k = L.length := by omega
        have HOL : Hid (oldAt L u = none) := by
          by_cases hr : renU u.kind = true
          · exact old_miss (fun j hj => HA.out hr j hj hj)
          · exact old_none (by simpa using hr)
        go_wp2_with fail
        go_meet
        exact ⟨rfl, hBr, HOL.out⟩
  case rest =>
    obtain ⟨rfl, hBr, HOL⟩ := hcut
    have b8 := br.keep hBr
    have b5 := bu2.keep hBr
    have hBw := bstep hB2 (Nat.le_refl _) hBr
    have r0 := b8.cell 0 (.slice A2 L.length c2) rfl
    have r1 := b8.cell 1 (.int .i64 l2) rfl
    by_cases h8 : 8 ≤ L.length
    · have h8' : (8 : Int) ≤ (L.length : Int) := by omega
      have HPO := Lib.hid (put_over (r := ⟨L, l2⟩) HOL.out h8)
      have f1 := b8.frozen 1
      have b9 := b8.set_ 1 (.int .i64 (l2 + 1))
      have s0 := b9.cell 0 (.slice A2 L.length c2) rfl
      have s1 := b9.cell 1 (.int .i64 (l2 + 1)) rfl
      have hBs : Below w.heap.size w (wc.setCell ⟨gr, 1, none⟩ (.int .i64 (l2 + 1))) := hBw.setCell (p := ⟨gr, 1, none⟩) (by simp; omega) _
      have hcl := Lib.hid (HW.out (wc.setCell ⟨gr, 1, none⟩ (.int .i64 (l2 + 1))) ⟨A2, c2, L, l2 + 1⟩ hBs (HS.out.keep hBs) HCP.out)
      have HBS := Lib.hid hBs
      clear b8 b5 b9 hBr hBs hBw br bu2 hB2 HAT HQ HS
      go_wp2_with fail
      refine hcl.out.mono ?_
      rintro e w7 ⟨O, d, rfl, hq7, hO7, hb7⟩
      clear s0 s1 r0 r1 f1 hcl
      go_wp2_with fail
      go_ret2
      rw [HPO.out.1, HPO.out.2]
      exact rput_end (r := ⟨A2, c2, L, l2 + 1⟩) HBS.out hq7 hO7 hb7 (fun hL b hb => .inl (HFB.out hL b hb))
    · have h8' : ¬ (8 : Int) ≤ (L.length : Int) := by omega
      have HPO := Lib.hid (put_app (r := ⟨L, l2⟩) HOL.out h8)
      have hBd : Below w.heap.size w wc.drew := hBw.drew
      have HO1 : Hid (∀ X, Below wc.drew.heap.size wc.drew X → X.cell? ⟨gr, 0, none⟩ = some (.slice A2 L.length c2) ∧ X.cell? ⟨w.heap.size, 0, none⟩ = some (.int .i64 u.kind) ∧ X.cell? ⟨w.heap.size, 1, none⟩ = some (.int .i64 u.a) ∧ X.cell? ⟨w.heap.size, 2, none⟩ = some (.int .u64 u.b) ∧ Sl eP 3 X A2 L) := fun X hX => by
        have B8 := Blk.keep (w := wc.drew) b8 hX
        have B5 := Blk.keep (w := wc.drew) b5 hX
        exact ⟨B8.cell 0 _ rfl, B5.cell 0 _ rfl, B5.cell 1 _ rfl, B5.cell 2 _ rfl, HS.out.keep (bstep hBd (Nat.le_refl _) hX)⟩
      have hgr8 : gr < wc.heap.size := b8.lt
      have hgu5 : w.heap.size < wc.heap.size := b5.lt
      have HG : Hid (∀ X w1 rr, Below wc.drew.heap.size wc.drew X → X.grownBy w1 rr → (∀ q, rr = some q → wc.heap.size ≤ q) → Below wc.drew.heap.size wc.drew w1) := fun X w1 rr hX hg hr => ⟨hg.os.trans hX.os, hg.tape.trans hX.tape, hg.output.trans hX.output, Nat.le_trans hX.size hg.size, fun j hj => (hg.block j (Nat.lt_of_lt_of_le hj hX.size) (fun e => by have := hr j e.symm; have : j < wc.heap.size := hj; omega)).trans (hX.block j hj)⟩
      have HFZ : Hid (∀ X, Below wc.drew.heap.size wc.drew X → X.frozen? ⟨gr, 0, none⟩ = false ∧ Blk X gr 49 #[.slice A2 L.length c2, .int .i64 l2]) := fun X hX => ⟨(Blk.keep (w := wc.drew) b8 hX).frozen 0, Blk.keep (w := wc.drew) b8 hX⟩
      have X0 := Below.refl wc.drew.heap.size wc.drew
      have XA : Below wc.drew.heap.size wc.drew (wc.drew.alloc (Obj.cells #[] 33)) := below1 _ _
      have XB : Below wc.drew.heap.size wc.drew (wc.drew.alloc (Obj.cells #[.int .i64 u.kind, .int .i64 u.a, .int .u64 u.b] 33)) := below1 _ _
      have XAB : Below wc.drew.heap.size wc.drew ((wc.drew.alloc (Obj.cells #[] 33)).alloc (Obj.cells #[.int .i64 u.kind, .int .i64 u.a, .int .u64 u.b] 33)) := XA.alloc XA.size _
      have XBA : Below wc.drew.heap.size wc.drew ((wc.drew.alloc (Obj.cells #[.int .i64 u.kind, .int .i64 u.a, .int .u64 u.b] 33)).alloc (Obj.cells #[] 33)) := XB.alloc XB.size _
      obtain ⟨n0, n1, n2, n3, -⟩ := HO1.out _ X0
      obtain ⟨ma0, ma1, ma2, ma3, -⟩ := HO1.out _ XA
      obtain ⟨mb0, -, -, -, -⟩ := HO1.out _ XB
      obtain ⟨mc0, -, -, -, -⟩ := HO1.out _ XAB
      obtain ⟨md0, -, -, -, -⟩ := HO1.out _ XBA
      have pa0 : (wc.alloc (Obj.cells #[] 33)).cell? ⟨gr, 0, none⟩ = some (.slice A2 L.length c2) := ma0
      have pa1 : (wc.alloc (Obj.cells #[] 33)).cell? ⟨w.heap.size, 0, none⟩ = some (.int .i64 u.kind) := ma1
      have pa2 : (wc.alloc (Obj.cells #[] 33)).cell? ⟨w.heap.size, 1, none⟩ = some (.int .i64 u.a) := ma2
      have pa3 : (wc.alloc (Obj.cells #[] 33)).cell? ⟨w.heap.size, 2, none⟩ = some (.int .u64 u.b) := ma3
      have pb0 : (wc.alloc (Obj.cells #[.int .i64 u.kind, .int .i64 u.a, .int .u64 u.b] 33)).cell? ⟨gr, 0, none⟩ = some (.slice A2 L.length c2) := mb0
      have pc0 : ((wc.alloc (Obj.cells #[] 33)).alloc (Obj.cells #[.int .i64 u.kind, .int .i64 u.a, .int .u64 u.b] 33)).cell? ⟨gr, 0, none⟩ = some (.slice A2 L.length c2) := mc0
      have pd0 : ((wc.alloc (Obj.cells #[.int .i64 u.kind, .int .i64 u.a, .int .u64 u.b] 33)).alloc (Obj.cells #[] 33)).cell? ⟨gr, 0, none⟩ = some (.slice A2 L.length c2) := md0
      have q0 : wc.cell? ⟨gr, 0, none⟩ = some (.slice A2 L.length c2) := n0
      have q1 : wc.cell? ⟨w.heap.size, 0, none⟩ = some (.int .i64 u.kind) := n1
      have q2 : wc.cell? ⟨w.heap.size, 1, none⟩ = some (.int .i64 u.a) := n2
      have q3 : wc.cell? ⟨w.heap.size, 2, none⟩ = some (.int .u64 u.b) := n3
      have HXA := Lib.hid XA
      have HXAB := Lib.hid XAB
      have HXBA := Lib.hid XBA
      have hsz : wc.drew.heap.size = wc.heap.size := rfl
      clear X0 XA XB XAB XBA b8 b5 br bu2 hBr hB2 HAT HQ hBw
      go_upto_region 14 with (fail)
      go_region_law (first | (refine step_append_sl _ rfl (.tmp 95) (.tmp 97) rfl elU eP_ok (base := wc.heap.size) (xs := []) ?o (n := 0) rfl rfl (m := L.length) rfl (ys := L) rfl ?s (by simp only [maxLen]; omega) (by omega) ?d _ rfl L.length (by simp) ?_; (case o => first | exact Own.empty' wc.drew 33 rfl (Nat.le_refl _) | exact (Own.empty' wc.drew 33 rfl (Nat.le_refl _)).alloc _ | exact Own.empty' (wc.drew.alloc (Obj.cells #[.int .i64 u.kind, .int .i64 u.a, .int .u64 u.b] 33)) 33 (by simp) (by omega)); (case s => first | exact (HO1.out _ HXA.out).2.2.2.2 | exact (HO1.out _ HXAB.out).2.2.2.2 | exact (HO1.out _ HXBA.out).2.2.2.2); (case d => first | (simp; done) | (simp; omega)); intro A1 e1 w1 own1 hg1 at1; simp only [List.nil_append] at own1; (have hX1 : Below wc.drew.heap.size wc.drew w1 := by first | exact HG.out _ _ _ HXA.out hg1 (ge_at (by omega)) | exact HG.out _ _ _ HXAB.out hg1 (ge_at (by omega)) | exact HG.out _ _ _ HXBA.out hg1 (ge_at (by omega))); obtain ⟨g0, g1, g2, g3, -⟩ := HO1.out _ hX1) | (refine step_append_sl _ rfl (.tmp 98) (.tmp 100) rfl elU eP_ok (base := wc.heap.size) (xs := L) ?o (n := L.length) rfl rfl (m := 1) rfl (ys := [u]) rfl ?s (by simp only [maxLen]; omega) (by omega) ?d _ rfl (L.length + 1) rfl ?_; (case o => first | exact own1 | exact own1.alloc _); (case s => first | exact Sl.new' eP_ok w1 u _ rfl _ rfl | exact (Sl.new' eP_ok (wc.drew.alloc (Obj.cells #[] 33)) u _ rfl _ (by simp)).grown hg1 (by intro q hq e; simp [blk] at hq e; omega) | exact ((Sl.new' eP_ok wc.drew u _ rfl _ rfl).alloc _).grown hg1 (by intro q hq e; simp [blk] at hq e; omega)); (case d => have := hX1.size; (first | omega | (simp; omega))); intro A3 e3 w3 own3 hg3 at3; (have hA1 : ∀ q, blk A1 = some q → wc.heap.size ≤ q := fun q hq => (own1.lt q hq).1); (have hX3 : Below wc.drew.heap.size wc.drew w3 := by first | exact HG.out _ _ _ hX1 hg3 hA1 | exact HG.out _ _ _ (hX1.alloc hX1.size _) hg3 hA1); (have k0 := (HO1.out _ hX3).1); (have k1 := (HFZ.out _ hX3).1)))
      all_goals
        have b9 := (HFZ.out _ hX3).2.set_ 0 (.slice A3 (L.length + 1) e3)
        have hBs : Below w.heap.size w (w3.setCell ⟨gr, 0, none⟩ (.slice A3 (L.length + 1) e3)) := (bstep hBd (Nat.le_refl _) hX3).setCell (p := ⟨gr, 0, none⟩) (by simp; omega) _
        have own4 := own3.kept (only_set (only_refl w3 gr) 0 (.slice A3 (L.length + 1) e3)) (.inr (fun e => by have := (own3.lt gr e).1; omega))
        have s0 := b9.cell 0 (.slice A3 (L.length + 1) e3) rfl
        have s1 := b9.cell 1 (.int .i64 l2) rfl
        have hcl := HW.out (w3.setCell ⟨gr, 0, none⟩ (.slice A3 (L.length + 1) e3)) ⟨A3, e3, L ++ [u], l2⟩ hBs (own4.sl eP_ok) own4.cap
        simp only [List.length_append, List.length_cons, List.length_nil, Nat.zero_add] at hcl
        have HCL := Lib.hid hcl
        have HBS := Lib.hid hBs
        have HLT := Lib.hid own4.lt
        clear hcl hBs own4 own3 own1 b9 hX1 hX3 hg1 hg3 at1 at3 hA1 g0 g1 g2 g3 k0 k1 n0 n1 n2 n3 ma0 ma1 ma2 ma3 mb0 mc0 md0 pa0 pa1 pa2 pa3 pb0 pc0 pd0 q0 q1 q2 q3 r0 r1 HO1 HG HFZ HXA HXAB HXBA HS hBd
        go_wp2_with fail
        refine HCL.out.mono ?_
        rintro e w7 ⟨O, d, rfl, hq7, hO7, hb7⟩
        clear s0 s1 HCL
        go_wp2_with fail
        go_ret2
        rw [HPO.out.1, HPO.out.2]
        exact rput_end (r := ⟨A3, e3, L ++ [u], l2⟩) HBS.out hq7 hO7 hb7 (fun _ b hb => .inr (by have := HLT.out b hb; omega))
end Go.Proofs.Ytciijdajdmcllaa
