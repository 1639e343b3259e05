/- Texts laid as one: K10. -/
import Derived.Test.YtpimflmmfnffeaaZ14
import Derived.StillTailTactics
import Derived.Test.YtpimflmmfnffeaaZ4
import Derived.Test.YtpimflmmfnffeaaZ2
import Derived.Deep.DeepCutAuto
import Derived.Deep.CutBlock
/- CpuKeeps: an instruction that is given up leaves all registers, the place, and all memory as they were. -/
namespace Go.Proofs.Ytpimflmmfnffeaa
open Go.RowKit Go.Lib
open Tlb (En Tb eE eE_ok)
open Fr (FrS Fm newF)

theorem fin_below {F : Nat → Prop} {w w4 wo w9 : World} (h4 : Below w.heap.size w w4) (hk : Kp F w4 wo) (hF : ∀ i, i < w.heap.size + 1 → F i) (h9 : Below wo.heap.size wo w9) : Below w.heap.size w w9 :=
  (h4.trans ((hk.low (B := w.heap.size) (fun b hb => hF b (by omega))))).trans (h9.mono (Nat.le_trans h4.size hk.size))
theorem cd_of {Fb : Nat → Prop} {w w' : World} {C : Option Addr} {CL : List Int} (h : Sl eU 1 w C CL) (hr : ∀ v ∈ CL, 0 ≤ v ∧ v < 18446744073709551616) (hl : CL.length ≤ 9223372036854775807) (hb : Below w.heap.size w w') (hF : ∀ i, i < w.heap.size → Fb i) : Cd Fb w' C CL :=
  ⟨h.keep hb, hr, hl, fun hp b e => by
    obtain ⟨b', off, hA, hc⟩ := h hp
    rw [hA] at e
    injection e with e
    subst e
    exact hF _ (World.block_lt_of_cell? w _ (hc 0 CL[0] 0 (.int .u64 CL[0]) (List.getElem?_eq_getElem hp) rfl))⟩

set_option maxRecDepth 100000 in
set_option maxHeartbeats 8000000 in
theorem keeps_any (all took envn : Nat) (ha : all ≤ 255) (ht : took ≤ 255) (he : envn ≤ 255) (A : Option Addr) (c : Nat) (l : List En) (B : Option Addr) (cb : Nat) (rs : List Int) (at_ : Int) (C : Option Addr) (cc : Nat) (CL : List Int) (w : World) (hs : Sl eE 4 w A l) (hl : l.length ≤ 9223372036854775807)
    (hrs : Sl eU 1 w B rs) (hr1 : ∀ v ∈ rs, 0 ≤ v ∧ v < 18446744073709551616) (hr2 : rs.length ≤ 9223372036854775807) (hcs : Sl eU 1 w C CL) (hc1 : ∀ v ∈ CL, 0 ≤ v ∧ v < 18446744073709551616) (hc2 : CL.length ≤ 9223372036854775807) :
    Calls Try.prog 3 #[.agg #[.int .u8 all, .int .u8 took, .slice A l.length c, .int .u8 envn], .slice B rs.length cb, .int .i64 at_, .slice C CL.length cc] w fun e w' => e = .returned (.bool true) ∧ Below w.heap.size w w' := by
  have HPL := Lib.hid (fun W (hW : Sl eE 4 W A l) => place_any all took envn ha ht he A c l true W hW hl)
  obtain ⟨e8, he8⟩ : ∃ e8, e8 = envn % 8 := ⟨_, rfl⟩
  rw [← he8] at HPL
  obtain ⟨sF, hsF⟩ : ∃ sF, sF = Fr.newF 0 := ⟨_, rfl⟩
  clear hsF
  obtain ⟨sF, hsF⟩ : ∃ sF, sF = takesF (took % 33) (newF (1 + all % 32)) := ⟨_, rfl⟩
  rw [← hsF] at HPL
  simp only [if_true] at HPL
  obtain ⟨LL, hLL⟩ : ∃ LL, LL = loads (l.take 40) := ⟨_, rfl⟩
  rw [← hLL] at HPL
  clear he8 hsF hLL ha ht he hl
  have HCD := Lib.hid (fun (Fb : Nat → Prop) (w' : World) (hb : Below w.heap.size w w') (hF : ∀ i, i < w.heap.size → Fb i) => And.intro (cd_of hrs hr1 hr2 hb hF) (cd_of hcs hc1 hc2 hb hF))
  have HS := Lib.hid hs
  clear hrs hr1 hr2 hcs hc1 hc2 hs
  have hB0 := below1 w (Obj.cells #[.int .u8 all, .int .u8 took, .slice A l.length c, .int .u8 envn] 24)
  have bm := Blk.new w 24 #[.int .u8 all, .int .u8 took, .slice A l.length c, .int .u8 envn]
  go_enter Try.func3, Try.ntmps3
  go_wp2_with fail
  generalize w.alloc (Obj.cells #[.int .u8 all, .int .u8 took, .slice A l.length c, .int .u8 envn] 24) = w0 at *
  have hz0 : w.heap.size < w0.heap.size := bm.lt
  refine (awake_any w0).mono ?_
  rintro e w1 ⟨rfl, hb1⟩
  replace bm := bm.keep hb1
  replace hB0 := bstep hB0 (Nat.le_refl _) hb1
  have hz1 : w.heap.size < w1.heap.size := Nat.lt_of_lt_of_le hz0 hb1.size
  clear hb1 hz0
  have m0 := bm.cell 0 (.int .u8 all) rfl
  have m1 := bm.cell 1 (.int .u8 took) rfl
  have m2 := bm.cell 2 (.slice A l.length c) rfl
  have m3 := bm.cell 3 (.int .u8 envn) rfl
  go_wp2_with fail
  refine (HPL.out w1 (HS.out.keep hB0)).mono ?_
  rintro e w2 ⟨gt, gf, rfl, hpl, hb2⟩
  clear m0 m1 m2 m3 bm
  replace hB0 := hB0.trans (hb2.mono (Nat.le_of_lt hz1))
  have hz2 := hb2.size
  clear hb2
  have hW4z : (w2.alloc (Obj.cells #[.int .i64 e8, .pointer (some ⟨gt, 0, none⟩), .pointer (some ⟨gf, 0, none⟩)] 30)).heap.size = w2.heap.size + 1 := by simp
  have HB4 : Hid (Below w.heap.size w ((w2.alloc (Obj.cells #[.int .i64 e8, .pointer (some ⟨gt, 0, none⟩), .pointer (some ⟨gf, 0, none⟩)] 30)).alloc (Obj.cells #[.int .u64 0, .int .u64 0, .int .u64 0, .int .u64 0, .int .u64 0, .int .u64 0, .int .u64 0, .int .u64 0, .int .i64 at_] 36))) := (hB0.alloc (by omega) _).alloc (by simp; omega) _
  have bp9 := (Blk.new w2 30 #[.int .i64 e8, .pointer (some ⟨gt, 0, none⟩), .pointer (some ⟨gf, 0, none⟩)]).alloc (Obj.cells #[.int .u64 0, .int .u64 0, .int .u64 0, .int .u64 0, .int .u64 0, .int .u64 0, .int .u64 0, .int .u64 0, .int .i64 at_] 36)
  have bc := Blk.new' (w2.alloc (Obj.cells #[.int .i64 e8, .pointer (some ⟨gt, 0, none⟩), .pointer (some ⟨gf, 0, none⟩)] 30)) 36 #[.int .u64 0, .int .u64 0, .int .u64 0, .int .u64 0, .int .u64 0, .int .u64 0, .int .u64 0, .int .u64 0, .int .i64 at_] (g := w2.heap.size + 1) (by simp)
  obtain ⟨Fb, hFb⟩ : ∃ Fb : Nat → Prop, Fb = fun i => i < w1.heap.size ∨ i = w2.heap.size := ⟨_, rfl⟩
  have hmo0 : Mo Fb ((w2.alloc (Obj.cells #[.int .i64 e8, .pointer (some ⟨gt, 0, none⟩), .pointer (some ⟨gf, 0, none⟩)] 30)).alloc (Obj.cells #[.int .u64 0, .int .u64 0, .int .u64 0, .int .u64 0, .int .u64 0, .int .u64 0, .int .u64 0, .int .u64 0, .int .i64 at_] 36)) gt gf (w2.heap.size + 1) (tbl LL) ⟨List.replicate 8 0, at_, sF⟩ := by
    refine ((hpl.box (Obj.cells #[.int .i64 e8, .pointer (some ⟨gt, 0, none⟩), .pointer (some ⟨gf, 0, none⟩)] 30)).box (Obj.cells #[.int .u64 0, .int .u64 0, .int .u64 0, .int .u64 0, .int .u64 0, .int .u64 0, .int .u64 0, .int .u64 0, .int .i64 at_] 36)).cpu (gc := w2.heap.size + 1) bc rng_zero (.inr (by simp)) (fun i hi => ?_)
    rw [hFb] at hi
    rcases hi with hi | rfl
    · exact ⟨.inl (.inl hi), by omega⟩
    · exact ⟨.inl (.inr rfl), by omega⟩
  have HF : Hid ((∀ i, i < w.heap.size + 1 → Fb i) ∧ Fb w2.heap.size) := ⟨fun i hi => by rw [hFb]; exact .inl (by omega), by rw [hFb]; exact .inr rfl⟩
  clear hFb hpl bc hB0
  go_upto_block 0 with (fail)
  obtain ⟨b9, hb9⟩ : ∃ b9, b9 = w2.heap.size := ⟨_, rfl⟩
  obtain ⟨gc, hgc⟩ : ∃ gc, gc = w2.heap.size + 1 := ⟨_, rfl⟩
  rw [← hgc] at hmo0
  rw [← hb9] at bp9 HF
  simp only [← hgc]
  simp only [← hb9]
  generalize (w2.alloc (Obj.cells #[.int .i64 e8, .pointer (some ⟨gt, 0, none⟩), .pointer (some ⟨gf, 0, none⟩)] 30)).alloc (Obj.cells #[.int .u64 0, .int .u64 0, .int .u64 0, .int .u64 0, .int .u64 0, .int .u64 0, .int .u64 0, .int .u64 0, .int .i64 at_] 36) = w4 at *
  clear hb9 hgc hW4z hz2 hz1
  have HM4 := Lib.hid hmo0
  have HP9 := Lib.hid bp9
  clear hmo0 bp9
  have HC4 : Hid (Cd Fb w4 B rs ∧ Cd Fb w4 C CL) := HCD.out Fb w4 HB4.out (fun i hi => HF.out.1 i (by omega))
  clear HCD HPL HS
  go_cut [11] (fun _ wx => ∃ R : List Int, Mo Fb wx gt gf gc (tbl LL) ⟨R, at_, sF⟩ ∧ Kp Fb w4 wx)
  case first =>
    go_wp2_with fail
    go_loopw [11] (fun s11 wr => ∃ (k : Nat) (R : List Int), k ≤ 8 ∧ k ≤ rs.length ∧ s11 = .int .i64 k ∧ Hid (Mo Fb wr gt gf gc (tbl LL) ⟨R, at_, sF⟩ ∧ Kp Fb w4 wr)) (fun i _ => 8 - (intOf i).toNat)
    case atStart => exact ⟨0, _, by omega, Nat.zero_le _, rfl, HM4.out, Kp.refl Fb w4⟩
    case round =>
      obtain ⟨k, R, hk8, hkl, rfl, HR⟩ := hrel
      by_cases hk1 : k < rs.length
      · by_cases hk2 : k < 8
        · obtain ⟨b, off, rfl, y0, yr0, yr1⟩ := (HC4.out.1.kp HR.out.2).at_ hk1
          have y8 := HR.out.1.reg (i := k) (by omega)
          have f8 := HR.out.1.frozen k
          have HST := Lib.hid (HR.out.1.drew.setR (i := k) (by omega) yr0 yr1)
          clear yr0 yr1
          generalize rat rs k = y at *
          have k0 : (0 : Int) ≤ (k : Int) := by omega
          have k1 : (k : Int) < (rs.length : Int) := by omega
          have k8 : (k : Int) < 8 := by omega
          go_wp2_with fail
          go_still_tail 9, (by kernel_rfl)
          change wpList _ _ _ _ _ wr.drew
          have y8' : wr.drew.cell? ⟨gc, k, none⟩ = some (.int .u64 (rat R k)) := y8
          have f8' : wr.drew.frozen? ⟨gc, k, none⟩ = false := f8
          go_wp2_with fail
          go_roundw
          case rel => exact ⟨k + 1, _, by omega, by omega, by go_num, HST.out.1, (HR.out.2.drew).trans HST.out.2⟩
          case measure => simp [intOf]; omega
        · obtain rfl : k = 8 := by omega
          go_wp2_with fail
          go_meet
          case rel => exact ⟨R, HR.out⟩
      · obtain rfl : k = rs.length := by omega
        go_wp2_with fail
        go_meet
        case rel => exact ⟨R, HR.out⟩
  case rest =>
    obtain ⟨R0, hq0, hk0⟩ := hcut
    have HQ0 := Lib.hid (And.intro hq0 hk0)
    clear hq0 hk0 HM4
    go_wp2_with fail
    go_loopw [12, 13, 14, 15, 16, 17] (fun s12 _ _ _ _ _ wr => ∃ (i : Nat) (st : St), i ≤ 60 ∧ s12 = .int .i64 i ∧ Hid (Mo Fb wr gt gf gc (tbl LL) st ∧ Kp Fb w4 wr)) (fun i _ _ _ _ _ _ => 60 - (intOf i).toNat)
    case atStart => exact ⟨0, _, by omega, rfl, HQ0.out⟩
    case round =>
      obtain ⟨i, st, hi, rfl, HR⟩ := hrel
      obtain ⟨wo, hwo⟩ : ∃ wo, wo = wr := ⟨_, rfl⟩
      subst hwo
      by_cases hi60 : i < 60
      · have hi61 : (i : Int) < 60 := by omega
        obtain ⟨R, p, s⟩ := st
        obtain ⟨r0, r1, r2, r3, r4, r5, r6, r7, rfl⟩ := rng_eight HR.out.1.rng
        have bc : Blk wo gc 36 #[.int .u64 r0, .int .u64 r1, .int .u64 r2, .int .u64 r3, .int .u64 r4, .int .u64 r5, .int .u64 r6, .int .u64 r7, .int .i64 p] := HR.out.1.cpu
        have q0 := bc.cell 0 (.int .u64 r0) rfl
        have q1 := bc.cell 1 (.int .u64 r1) rfl
        have q2 := bc.cell 2 (.int .u64 r2) rfl
        have q3 := bc.cell 3 (.int .u64 r3) rfl
        have q4 := bc.cell 4 (.int .u64 r4) rfl
        have q5 := bc.cell 5 (.int .u64 r5) rfl
        have q6 := bc.cell 6 (.int .u64 r6) rfl
        have q7 := bc.cell 7 (.int .u64 r7) rfl
        have q8 := bc.cell 8 (.int .i64 p) rfl
        have bw := Blk.new wo 36 #[.int .u64 r0, .int .u64 r1, .int .u64 r2, .int .u64 r3, .int .u64 r4, .int .u64 r5, .int .u64 r6, .int .u64 r7, .int .i64 p]
        have hqa := HR.out.1.box (Obj.cells #[.int .u64 r0, .int .u64 r1, .int .u64 r2, .int .u64 r3, .int .u64 r4, .int .u64 r5, .int .u64 r6, .int .u64 r7, .int .i64 p] 36)
        have hP9a := (HR.out.2.blk HP9.out HF.out.2).alloc (Obj.cells #[.int .u64 r0, .int .u64 r1, .int .u64 r2, .int .u64 r3, .int .u64 r4, .int .u64 r5, .int .u64 r6, .int .u64 r7, .int .i64 p] 36)
        have hka : Kp Fb w4 (wo.alloc (Obj.cells #[.int .u64 r0, .int .u64 r1, .int .u64 r2, .int .u64 r3, .int .u64 r4, .int .u64 r5, .int .u64 r6, .int .u64 r7, .int .i64 p] 36)) := HR.out.2.trans (HR.out.1.kp (below1 wo _))
        have hza : (wo.alloc (Obj.cells #[.int .u64 r0, .int .u64 r1, .int .u64 r2, .int .u64 r3, .int .u64 r4, .int .u64 r5, .int .u64 r6, .int .u64 r7, .int .i64 p] 36)).heap.size = wo.heap.size + 1 := by simp
        have hba : Below wo.heap.size wo (wo.alloc (Obj.cells #[.int .u64 r0, .int .u64 r1, .int .u64 r2, .int .u64 r3, .int .u64 r4, .int .u64 r5, .int .u64 r6, .int .u64 r7, .int .i64 p] 36)) := below1 wo _
        have h9z : b9 < wo.heap.size := HR.out.1.lt _ HF.out.2
        clear bc
        go_wp2_with fail
        generalize wo.alloc (Obj.cells #[.int .u64 r0, .int .u64 r1, .int .u64 r2, .int .u64 r3, .int .u64 r4, .int .u64 r5, .int .u64 r6, .int .u64 r7, .int .i64 p] 36) = wa at *
        clear q0 q1 q2 q3 q4 q5 q6 q7 q8
        have HA := Lib.hid (And.intro hqa (And.intro hP9a (And.intro hka (And.intro hza (And.intro hba bw)))))
        clear hqa hP9a hka hza hba bw
        go_loopw [14, 15] (fun s14 s15 wx => ∃ (k : Nat) (A' : Option Addr) (c' : Nat), k ≤ 32 ∧ s15 = .int .i64 k ∧ s14 = .slice A' k c' ∧ Hid (Own eS 1 wx (wo.heap.size + 1) 9 A' c' (aheadL s k) ∧ Below (wo.heap.size + 1) wa wx)) (fun _ i _ => 32 - (intOf i).toNat)
        case atStart => exact ⟨0, none, 0, by omega, rfl, rfl, Own.nil _ _ _, Below.refl _ _⟩
        case round =>
          obtain ⟨k, A1, c1, hk, rfl, rfl, HO⟩ := hrel
          have hP9x : Blk wr b9 30 #[.int .i64 e8, .pointer (some ⟨gt, 0, none⟩), .pointer (some ⟨gf, 0, none⟩)] := (HO.out.2.block _ (by omega)).trans HA.out.2.1
          have x0 := hP9x.cell 0 (.int .i64 e8) rfl
          have x1 := hP9x.cell 1 (.pointer (some ⟨gt, 0, none⟩)) rfl
          have x2 := hP9x.cell 2 (.pointer (some ⟨gf, 0, none⟩)) rfl
          clear hP9x
          have hwax : Below wa.heap.size wa wr := by rw [HA.out.2.2.2.1]; exact HO.out.2
          by_cases hk32 : k < 32
          · have HBY := Lib.hid (bytes_mo s gf k wr (HA.out.1.fr.keep hwax))
            clear hwax
            go_wp2_with fail
            refine HBY.out.mono ?_
            rintro e w5 ⟨v, rfl, hk5, hv5⟩
            have hcv := hv5 w5 (Below.refl _ _)
            generalize hSS : fS s k = SS at *
            have hown := (HO.out.1.keep hk5).keep (below1 w5 (Obj.cells #[.string SS] 9))
            have HB5 : Hid (Below (wo.heap.size + 1) wa (w5.alloc (Obj.cells #[.string SS] 9)) ∧ wo.heap.size + 1 ≤ w5.heap.size) := by
              have h1 := HO.out.2.size
              have h2 := hk5.size
              have h3 := HA.out.2.2.2.1
              exact ⟨(HO.out.2.trans (hk5.mono (by omega))).alloc (by omega) _, by omega⟩
            have HOW := Lib.hid hown
            have HSS := Lib.hid hSS
            have hsl := Lib.hid (Sl.new' eS_ok w5 SS #[.string SS] rfl 9 rfl)
            clear hown x0 x1 x2 hk5 hv5 hSS HBY
            go_wp2_with (at_builtin; refine wpList_append_sl _ rfl _ _ rfl elS eS_ok HOW.out (n := k) (aheadL_len s k) rfl (m := 1) rfl (ys := [SS]) rfl hsl.out (by simp only [maxLen]; omega) (by omega) (by have := HB5.out.2; simp; omega) _ rfl (k + 1) rfl ?_; intro A5 c5 w6 own6 hg6 at6)
            have HN6 : Hid (Own eS 1 w6 (wo.heap.size + 1) 9 A5 c5 (aheadL s (k + 1)) ∧ Below (wo.heap.size + 1) wa w6) := by
              refine ⟨by rw [aheadL_succ, HSS.out]; exact own6, HB5.out.1.grown hg6 (by have := HB5.out.2; simp; omega) (fun q hq => (HOW.out.lt q hq).1)⟩
            clear own6 hg6 at6 HB5 HOW hsl HSS hcv
            go_roundw
            case rel => exact ⟨k + 1, A5, c5, by omega, by go_num, rfl, HN6.out⟩
            case measure => simp [intOf]; omega
          · obtain rfl : k = 32 := by omega
            have hbx : Below wo.heap.size wo wr := HA.out.2.2.2.2.1.trans (HO.out.2.mono (by omega))
            obtain ⟨F3, hF3⟩ : ∃ F3 : Nat → Prop, F3 = fun j => Fb j ∨ (wo.heap.size ≤ j ∧ j < wr.heap.size) := ⟨_, rfl⟩
            have hq3 : Mo F3 wr gt gf gc (tbl LL) ⟨[r0, r1, r2, r3, r4, r5, r6, r7], p, s⟩ := HR.out.1.join hbx (fun j hj => by rw [hF3] at hj; exact hj)
            have hkx : Kp Fb w4 wr := HR.out.2.trans (HR.out.1.kp hbx)
            have hcd : Cd F3 wr C CL := (HC4.out.2.kp hkx).more (fun j hj => by rw [hF3]; exact .inl hj)
            have hsz : wo.heap.size < wr.heap.size := by have h1 := HO.out.2.size; have h2 := HA.out.2.2.2.1; omega
            have HF3 : Hid ((∀ j, Fb j → F3 j) ∧ F3 wo.heap.size ∧ ∀ q, blk A1 = some q → F3 q) := ⟨fun j hj => by rw [hF3]; exact .inl hj, by rw [hF3]; exact .inr ⟨Nat.le_refl _, hsz⟩, fun q hq => by rw [hF3]; exact .inr ⟨by have := (HO.out.1.lt q hq).1; omega, (HO.out.1.lt q hq).2⟩⟩
            have bw : Blk wr wo.heap.size 36 #[.int .u64 r0, .int .u64 r1, .int .u64 r2, .int .u64 r3, .int .u64 r4, .int .u64 r5, .int .u64 r6, .int .u64 r7, .int .i64 p] := (HO.out.2.block _ (by omega)).trans HA.out.2.2.2.2.2
            have HST := Lib.hid (step_mo F3 gt gf gc C cc CL e8 (tbl LL) _ wr hq3 hcd)
            obtain ⟨kk, pp, xx, st2, hst⟩ : ∃ kk pp xx st2, stepM (tbl LL e8) CL ⟨[r0, r1, r2, r3, r4, r5, r6, r7], p, s⟩ = (⟨kk, pp, xx⟩, st2) := ⟨_, _, _, _, rfl⟩
            rw [hst] at HST
            have HKP : Hid (1 < kk → st2 = ⟨[r0, r1, r2, r3, r4, r5, r6, r7], p, s⟩ ∧ pp = p) := fun h => by
              have := step_keeps (tbl LL e8) CL ⟨[r0, r1, r2, r3, r4, r5, r6, r7], p, s⟩ (by rw [hst]; exact h)
              rw [hst] at this
              exact this
            have HOWN := Lib.hid HO.out.1
            have HKX := Lib.hid hkx
            have HBW := Lib.hid bw
            have HPX : Hid (Blk wr b9 30 #[.int .i64 e8, .pointer (some ⟨gt, 0, none⟩), .pointer (some ⟨gf, 0, none⟩)]) := (HO.out.2.block _ (by omega)).trans HA.out.2.1
            clear hst hbx hF3 hq3 hcd hkx hsz hwax HA HO bw
            by_cases hk1 : kk ≤ 1
            · go_wp2_with fail
              refine HST.out.mono ?_
              rintro e w6 ⟨rfl, hq6, hk6⟩
              have HN : Hid (Mo Fb (w6.alloc (Obj.cells #[.int .i64 kk, .int .i64 pp, .int .u64 xx] 41)) gt gf gc (tbl LL) st2 ∧ Kp Fb w4 (w6.alloc (Obj.cells #[.int .i64 kk, .int .i64 pp, .int .u64 xx] 41))) := ⟨(hq6.keep (below1 w6 _)).less HF3.out.1, (HKX.out.trans (hk6.mono HF3.out.1)).trans ((hq6.kp (below1 w6 _)).mono HF3.out.1)⟩
              clear hq6 hk6 x0 x1 x2
              go_wp2_with fail
              go_roundw
              case rel => exact ⟨i + 1, st2, by omega, by go_num, HN.out⟩
              case measure => simp [intOf]; omega
            · obtain ⟨rfl, rfl⟩ := HKP.out (by omega)
              go_wp2_with fail
              refine HST.out.mono ?_
              rintro e w6 ⟨rfl, hq6, hk6⟩
              have hz6 := hk6.size
              have bt := Blk.new w6 41 #[.int .i64 kk, .int .i64 pp, .int .u64 xx]
              have hq7 := hq6.keep (below1 w6 (Obj.cells #[.int .i64 kk, .int .i64 pp, .int .u64 xx] 41))
              have hk7 := hk6.trans (hq6.kp (below1 w6 (Obj.cells #[.int .i64 kk, .int .i64 pp, .int .u64 xx] 41)))
              clear hq6 hk6 x0 x1 x2
              go_upto_region 22 with (fail)
              generalize w6.alloc (Obj.cells #[.int .i64 kk, .int .i64 pp, .int .u64 xx] 41) = w7 at *
              have bc7 : Blk w7 gc 36 #[.int .u64 r0, .int .u64 r1, .int .u64 r2, .int .u64 r3, .int .u64 r4, .int .u64 r5, .int .u64 r6, .int .u64 r7, .int .i64 pp] := hq7.cpu
              have bw7 := hk7.blk HBW.out HF3.out.2.1
              have q0 := bc7.cell 0 (.int .u64 r0) rfl
              have q1 := bc7.cell 1 (.int .u64 r1) rfl
              have q2 := bc7.cell 2 (.int .u64 r2) rfl
              have q3 := bc7.cell 3 (.int .u64 r3) rfl
              have q4 := bc7.cell 4 (.int .u64 r4) rfl
              have q5 := bc7.cell 5 (.int .u64 r5) rfl
              have q6 := bc7.cell 6 (.int .u64 r6) rfl
              have q7 := bc7.cell 7 (.int .u64 r7) rfl
              have q8 := bc7.cell 8 (.int .i64 pp) rfl
              have v0 := bw7.cell 0 (.int .u64 r0) rfl
              have v1 := bw7.cell 1 (.int .u64 r1) rfl
              have v2 := bw7.cell 2 (.int .u64 r2) rfl
              have v3 := bw7.cell 3 (.int .u64 r3) rfl
              have v4 := bw7.cell 4 (.int .u64 r4) rfl
              have v5 := bw7.cell 5 (.int .u64 r5) rfl
              have v6 := bw7.cell 6 (.int .u64 r6) rfl
              have v7 := bw7.cell 7 (.int .u64 r7) rfl
              have v8 := bw7.cell 8 (.int .i64 pp) rfl
              have t1 := bt.cell 1 (.int .i64 pp) rfl
              have HQ7 := Lib.hid (And.intro hq7 hk7)
              clear bc7 bw7 bt hq7 hk7
              have hneq := cpu_neq r0 r1 r2 r3 r4 r5 r6 r7 pp
              go_quiet (fail)
              clear hneq q0 q1 q2 q3 q4 q5 q6 q7 q8 v0 v1 v2 v3 v4 v5 v6 v7 v8 t1
              go_wp2_with fail
              go_loopw [17] (fun s17 wy => ∃ k : Nat, k ≤ 32 ∧ s17 = .int .i64 k ∧ Below w7.heap.size w7 wy) (fun i _ => 32 - (intOf i).toNat)
              case atStart => exact ⟨0, by omega, rfl, bdrewN (Below.refl _ w7) nq⟩
              case round =>
                obtain ⟨k, hk, rfl, hBy⟩ := hrel
                have hP9y := ((HQ7.out.2.blk HPX.out (HF3.out.1 _ HF.out.2)).keep hBy)
                have y2 := hP9y.cell 2 (.pointer (some ⟨gf, 0, none⟩)) rfl
                by_cases hk32 : k < 32
                · have HBY := Lib.hid (fun W (hW : Keeps wr W) => bytes_mo s gf k W ((HQ7.out.1.fr.keep hBy).keep hW))
                  obtain ⟨qa, rfl⟩ : ∃ qa, A1 = some ⟨qa, 0, none⟩ := by
                    rcases HOWN.out.shape with ⟨_, e, _⟩ | ⟨q, rfl⟩
                    · have := aheadL_len s 32; rw [e] at this; simp at this
                    · exact ⟨q, rfl⟩
                  have ya := kcell hBy (HQ7.out.2.cell (own_cell eS_ok HOWN.out (i := k) (by rw [aheadL_len]; exact hk32) (j := 0) rfl) (HF3.out.2.2 qa rfl))
                  rw [aheadL_at] at ya
                  simp only [Nat.mul_one, Nat.add_zero] at ya
                  have k0 : (0 : Int) ≤ (k : Int) := by omega
                  have k1 : (k : Int) < 32 := by omega
                  generalize hSS : fS s k = SS at *
                  replace hSS := Lib.hid hSS
                  have HBY2 := Lib.hid hBy
                  clear hP9y hBy
                  go_upto_region 27 with (fail)
                  have aft_y2 := kc_cell y2
                  have aft_ya := kc_cell ya
                  refine wp_region_rely Keeps way_keeps [98] (fun _ v w => BytesV SS v w) (fun _ _ _ _ _ h hr => h.keep hr) 106 (by kernel_rfl) (by kernel_rfl) (by rfl) ?_
                  repeat (first | (refine rl_q (by rfl) (by rfl) (by rfl) (by rfl) (fun K hK => ?_); go_big_quiet_op; refine hK _ ?_; clear hK K) | (refine rl_skip (by rfl) (by rfl) ?_; (try simp only [Act.put, List.setIfInBounds_toArray, List.set_cons_zero, List.set_cons_succ])) | (refine rl_call (by rfl) (by rfl) (by rfl) (by rfl) (fun K hK => ?_); go_simp; (try simp only [RUp, true_and]); first | (apply Exists.intro; refine ⟨fun n => rfl, hK _ ?_⟩; clear hK K; (try simp only [Act.put, List.setIfInBounds_toArray, List.set_cons_zero, List.set_cons_succ]))) | (refine rl_n 98 [] (by rfl) (by rfl) (by rfl) (fun γ w hR hT => ?_) ?_; (go_simp; exact nup_f (Below.refl _ _) (HBY.out _ hR)); (try simp only [Act.put, List.setIfInBounds_toArray, List.set_cons_zero, List.set_cons_succ])) | (refine rl_u (.string SS) [98] (by rfl) (by rfl) (by simp) (by rfl) (fun γ w hR hT => ?_) ?_; ((have hc := hT 98 (by simp) w (Below.refl _ _)); simp only [putG, Act.put, List.setIfInBounds_toArray, List.set_cons_zero, List.set_cons_succ] at *; go_simp; exact nup_v (Below.refl _ _) rfl); (try simp only [Act.put, List.setIfInBounds_toArray, List.set_cons_zero, List.set_cons_succ])))
                  refine rl_end ?_
                  intro γ w6b hb6 hT
                  clear aft_y2 aft_ya
                  simp only [putG, Act.put, List.setIfInBounds_toArray, List.set_cons_zero, List.set_cons_succ]
                  have HB6 := Lib.hid (bstep HBY2.out (Nat.le_refl _) hb6)
                  clear hb6 hT y2 ya HBY2
                  go_wp2_with fail
                  go_roundw
                  case rel => exact ⟨k + 1, by omega, by go_num, HB6.out⟩
                  case measure => simp [intOf]; omega
                · obtain rfl : k = 32 := by omega
                  have hkf : Kp Fb w4 wr := (HKX.out.trans (HQ7.out.2.mono HF3.out.1)).trans (Kp.of_below hBy (fun b hb => HQ7.out.1.lt b (HF3.out.1 b hb)))
                  have HKF := Lib.hid hkf
                  clear hkf hBy hP9y
                  go_wp2_with fail
                  refine (awake_any wr).mono ?_
                  rintro e w9 ⟨rfl, hb9⟩
                  have HFIN := Lib.hid (fin_below HB4.out HKF.out HF.out.1 hb9)
                  clear hb9 y2
                  go_wp2_with fail
                  go_ret
                  exact ⟨rfl, HFIN.out⟩
      · obtain rfl : i = 60 := by omega
        go_wp2_with fail
        refine (awake_any wo).mono ?_
        rintro e w9 ⟨rfl, hb9⟩
        have HFIN := Lib.hid (fin_below HB4.out HR.out.2 HF.out.1 hb9)
        clear hb9
        go_wp2_with fail
        go_ret
        exact ⟨rfl, HFIN.out⟩
end Go.Proofs.Ytpimflmmfnffeaa
