/- Walk: Put, with all that it keeps. -/
import Derived.Test.YtciijdajdmcllaaV1
import Derived.Deep.DeepCutAuto
import Derived.Deep.CutBlock
namespace Go.Proofs.Ytciijdajdmcllaa
open Go.RowKit Go.Lib

def RetPF (F : Nat → Prop) (g : Nat) (C : List Ct) (r : Int) (w : World) (e : Ending) (w' : World) : Prop := e = .returned (.int .i64 r) ∧ Rf F w' g C ∧ Kp F w w'
set_option maxRecDepth 100000 in
set_option maxHeartbeats 8000000 in
theorem put_rowF (F : Nat → Prop) (g i : Nat) (hi : i < 8) (u : Up) (hu : okK u.kind = true) (R : List RwS) (w : World) (hR : Rws w g R) (hiR : i < R.length) (A : Option Addr) (c : Nat) (L : List Up) (lost : Int) (hRi : R[i] = ⟨A, c, L, lost⟩) (hl8 : L.length ≤ 8) (h0 : 0 ≤ lost) (h1 : lost ≤ 100000) (hF : Off F w.heap.size g R) :
    Calls Try.prog 6 #[.pointer (some ⟨g, 0, none⟩), .int .i64 i, .agg #[.int .i64 u.kind, .int .i64 u.a, .int .u64 u.b]] w (RetPF F g ((R.map ctOf).set i (putC ⟨L, lost⟩ u)) (putE ⟨L, lost⟩ u) w) := by
  have H := Lib.hid (fun W => of_yes g i hi W)
  have HN := Lib.hid (fun W => name_any u.kind W)
  have HRN := Lib.hid (fun W => ren_any u.kind W)
  have hq := name_some hu
  have hgw : g < w.heap.size := hR.at_.lt
  have hB := below1 w (Obj.cells #[.int .i64 u.kind, .int .i64 u.a, .int .u64 u.b] 38)
  have bu := Blk.new w 38 #[.int .i64 u.kind, .int .i64 u.a, .int .u64 u.b]
  have HR := Lib.hid hR
  have HFF := Lib.hid hF
  clear hF
  have hlen := hR.len
  clear hR hi
  have HOB : Hid (∀ q, blk A = some q → g < q ∧ q < w.heap.size) := fun q hq => by
    have := HR.out.lt hiR q
    rw [hRi] at this
    exact this hq
  have HC : Hid (∀ W, Below w.heap.size w W → W.cell? ⟨g, i * 2, none⟩ = some (.slice A L.length c) ∧ W.cell? ⟨g, i * 2 + 1, none⟩ = some (.int .i64 lost)) := fun W hW => by
    have := (HR.out.keep hW).cells hiR
    rw [hRi] at this
    exact this
  have HO : Hid (∀ W, Below w.heap.size w W → Own eP 3 W (g + 1) 38 A c L) := fun W hW => by
    have := (HR.out.keep hW).own i hiR
    rw [hRi] at this
    exact this
  have HPT : Hid (∀ W W', Below w.heap.size w W → W.grownBy W' (blk A) → ∀ A' c' L', Own eP 3 W' (g + 1) 38 A' c' L' → (blk A' = blk A ∨ blk A' = none ∨ ∃ q, blk A' = some q ∧ W.heap.size ≤ q) → Rf F (W'.setCell ⟨g, i * 2, none⟩ (.slice A' L'.length c')) g ((R.map ctOf).set i ⟨L', lost⟩)) := fun W W' hW hg A' c' L' ho hA => by
    have hk := HR.out.keep hW
    have := hk.put hiR (by rw [hRi]; exact hg) ho (by rw [hRi]; exact hA)
    have hsz := hW.size
    refine ⟨_, this, by rw [ct_set, hRi]; rfl, HFF.out.set_ hiR (by have := hg.size; simp [World.setCell]; omega) ?_⟩
    rw [hRi]
    rcases hA with e | e | ⟨q, e, hq⟩
    · exact .inl e
    · exact .inr (.inl e)
    · exact .inr (.inr ⟨q, e, by omega⟩)
  have HRW : Hid (∀ W W', Below w.heap.size w W → W.grownBy W' (blk A) → ∀ L', Own eP 3 W' (g + 1) 38 A c L' → L'.length = L.length → Rf F W' g ((R.map ctOf).set i ⟨L', lost⟩)) := fun W W' hW hg L' ho hA => by
    have hk := HR.out.keep hW
    have := hk.row hiR (by rw [hRi]; exact hg) (L := L') (by rw [hRi]; exact ho) (by rw [hRi]; exact hA)
    have hsz := hW.size
    exact ⟨_, this, by rw [ct_set, hRi]; rfl, HFF.out.set_ hiR (by have := hg.size; omega) (.inl rfl)⟩
  have HLS : Hid (∀ W v, Below w.heap.size w W → Rf F (W.setCell ⟨g, i * 2 + 1, none⟩ (.int .i64 v)) g ((R.map ctOf).set i ⟨L, v⟩)) := fun W v hW => by
    have := (HR.out.keep hW).lose hiR v
    have hsz := hW.size
    exact ⟨_, this, by rw [ct_set, hRi]; rfl, HFF.out.set_ hiR (by simp [World.setCell]; omega) (.inl rfl)⟩
  have HFZ : Hid (∀ W k, Below w.heap.size w W → W.frozen? ⟨g, k, none⟩ = false) := fun W k hW => (HR.out.keep hW).at_.frozen k
  have HFA : Hid (∀ b, F b → b < w.heap.size ∧ b ≠ g ∧ some b ≠ blk A) := fun b hb => by
    obtain ⟨q1, q2, q3⟩ := HFF.out b hb
    refine ⟨q1, q2, fun e => q3 _ (List.getElem_mem hiR) ?_⟩
    rw [hRi]
    exact e.symm
  clear hRi HR hlen hiR HFF
  generalize R.map ctOf = C at *
  clear R
  go_enter Try.func6, Try.ntmps6
  go_wp2_with fail
  refine (H.out _).mono ?_
  rintro e w2 ⟨rfl, rfl⟩
  go_wp2_with fail
  refine (HN.out _).mono ?_
  rintro e w2 ⟨rfl, rfl⟩
  go_wp2_with fail
  refine (HRN.out _).mono ?_
  rintro e w2 ⟨rfl, rfl⟩
  clear hq H HN HRN hu
  have hzu : w.heap.size < (w.alloc (Obj.cells #[.int .i64 u.kind, .int .i64 u.a, .int .u64 u.b] 38)).heap.size := bu.lt
  generalize w.alloc (Obj.cells #[.int .i64 u.kind, .int .i64 u.a, .int .u64 u.b] 38) = W at *
  go_upto_if 25 with (fail)
  go_cut [6] (fun s6 wx => s6 = .int .i64 0 ∧ Below w.heap.size w wx ∧ Blk wx w.heap.size 38 #[.int .i64 u.kind, .int .i64 u.a, .int .u64 u.b] ∧ w.heap.size < wx.heap.size ∧ Hid (oldAt L u = none))
  case first =>
    cases hr : renU u.kind
    · have HO : Hid (oldAt L u = none) := old_none hr
      go_wp2_with fail
      go_meet
      exact ⟨rfl, hB, bu, hzu, HO.out⟩
    · have c0 := (HC.out _ hB).1
      have HRU := Lib.hid hr
      clear hr
      go_wp2_with fail
      go_loopw [6, 8, 9, 31] (fun s6 _ _ s31 wr => ∃ k : Nat, k ≤ L.length ∧ s31 = .int .i64 k ∧ s6 = .int .i64 0 ∧ Below w.heap.size w wr ∧ Blk wr w.heap.size 38 #[.int .i64 u.kind, .int .i64 u.a, .int .u64 u.b] ∧ w.heap.size < wr.heap.size ∧ Hid (∀ j, (hj : j < L.length) → j < k → sameU u L[j] = false)) (fun _ _ _ i _ => L.length - (intOf i).toNat)
      case atStart => exact ⟨0, Nat.zero_le _, rfl, rfl, hB, bu, hzu, fun j hj h => absurd h (Nat.not_lt_zero _)⟩
      case round =>
        clear hB bu hzu c0
        obtain ⟨k, hk, rfl, rfl, hB, bu, hzu, HA⟩ := hrel
        by_cases hlt : k < L.length
        · have hown := HO.out _ hB
          rcases hown.shape with ⟨rfl, rfl, rfl⟩ | ⟨q, rfl⟩
          · exact absurd hlt (by simp)
          obtain ⟨hq1, hq2⟩ := HOB.out q rfl
          obtain ⟨y0, y1, y2⟩ := own_up hown hlt
          have k0 : (0 : Int) ≤ (k : Int) := by omega
          have k1 : (k : Int) < (L.length : Int) := by omega
          have HHit : Hid (sameU u L[k] = true → oldAt L u = some k) := fun h => old_hit HRU.out hlt h (fun j hj => HA.out j (by omega) hj)
          have HNx : Hid (sameU u L[k] = false → ∀ j, (hj : j < L.length) → j < k + 1 → sameU u L[j] = false) := fun h j hj hjk => by
            by_cases he : j = k
            · subst he; exact h
            · exact HA.out j hj (by omega)
          clear HA hown
          generalize L[k] = o at *
          have bo := below1 wr (Obj.cells #[.int .i64 o.kind, .int .i64 o.a, .int .u64 o.b] 38)
          have bua := bu.keep bo
          have hBa := bstep hB (Nat.le_refl _) bo
          have x0 := bua.cell 0 (.int .i64 u.kind) rfl
          have x1 := bua.cell 1 (.int .i64 u.a) rfl
          have x2 := bua.cell 2 (.int .u64 u.b) rfl
          have hza : w.heap.size < (wr.alloc (Obj.cells #[.int .i64 o.kind, .int .i64 o.a, .int .u64 o.b] 38)).heap.size := bua.lt
          cases e1 : (o.kind == u.kind)
          · have HF : Hid (sameU u o = false) := by unfold Hid sameU; rw [e1]; rfl
            have HN2 := Lib.hid (HNx.out HF.out)
            clear HHit HNx HF
            go_wp2_with fail
            go_roundw
            case rel => exact ⟨k + 1, by omega, by go_num, rfl, hBa, bua, hza, HN2.out⟩
            case measure => simp [intOf]; omega
          · cases e2 : (o.a == u.a)
            · have HF : Hid (sameU u o = false) := by unfold Hid sameU; rw [e1, e2]; rfl
              have HN2 := Lib.hid (HNx.out HF.out)
              clear HHit HNx HF
              go_wp2_with fail
              go_roundw
              case rel => exact ⟨k + 1, by omega, by go_num, rfl, hBa, bua, hza, HN2.out⟩
              case measure => simp [intOf]; omega
            · have HT : Hid (sameU u o = true) := by unfold Hid sameU; rw [e1, e2]; rfl
              have HOL := Lib.hid (HHit.out HT.out)
              clear HHit HNx HT
              go_upto_region 11 with (fail)
              have hown := HO.out _ hBa
              generalize wr.alloc (Obj.cells #[.int .i64 o.kind, .int .i64 o.a, .int .u64 o.b] 38) = Wa at *
              have c0 := (HC.out _ hBa).1
              have hp3 := put3_own hown hlt u
              have z0 := (own_room hown (k * 3) (by have := hown.cap; omega)).2
              have z1 := (own_room hown (k * 3 + 1) (by have := hown.cap; omega)).2
              have z2 := (own_room hown (k * 3 + 1 + 1) (by have := hown.cap; omega)).2
              obtain ⟨v0, v1, v2⟩ := own_up hown hlt
              have HRS := Lib.hid (HRW.out _ _ hBa hp3.2 _ hp3.1 (by simp))
              have HBG : Hid (Kp F w (put3 Wa q (k * 3) u)) := (Kp.of_below hBa (fun b hb => (HFA.out b hb).1)).trans (Kp.grown hp3.2 (fun b hb => ⟨Nat.lt_of_lt_of_le (HFA.out b hb).1 hBa.size, (HFA.out b hb).2.2⟩))
              clear hp3 hown
              go_region
              all_goals
                go_wp2_with fail
                go_ret
                refine ⟨?_, ?_, ?_⟩
                · exact ret_int (put_hit (r := ⟨L, lost⟩) HOL.out).2.symm
                · rw [(put_hit (r := ⟨L, lost⟩) HOL.out).1]
                  exact HRS.out.drew
                · exact HBG.out.drew
        · obtain rfl : k = L.length := by omega
          have HOL : Hid (oldAt L u = none) := old_miss (fun j hj => HA.out j hj hj)
          go_wp2_with fail
          go_meet
          exact ⟨rfl, hB, bu, hzu, HOL.out⟩
  case rest =>
    clear hB bu hzu HRW
    obtain ⟨rfl, hB, bu, hzu, HOL⟩ := hcut
    have c0 := (HC.out _ hB).1
    have c1 := (HC.out _ hB).2
    by_cases h8 : 8 ≤ L.length
    · have h8' : (8 : Int) ≤ (L.length : Int) := by omega
      have HPO := Lib.hid (put_over (r := ⟨L, lost⟩) HOL.out h8)
      have HRS := Lib.hid (HLS.out wc (lost + 1) hB)
      have f1 := HFZ.out wc (i * 2 + 1) hB
      go_wp2_with fail
      go_ret
      refine ⟨ret_int HPO.out.2.symm, ?_, (Kp.of_below hB (fun b hb => (HFA.out b hb).1)).trans (Kp.set_ (fun b hb => (HFA.out b hb).2.1) _ _)⟩
      rw [HPO.out.1]
      exact HRS.out
    · have h8' : ¬ (8 : Int) ≤ (L.length : Int) := by omega
      have HPO := Lib.hid (put_app (r := ⟨L, lost⟩) HOL.out h8)
      have x0 := bu.cell 0 (.int .i64 u.kind) rfl
      have x1 := bu.cell 1 (.int .i64 u.a) rfl
      have x2 := bu.cell 2 (.int .u64 u.b) rfl
      have hbn := below1 wc.drew (Obj.cells #[.int .i64 u.kind, .int .i64 u.a, .int .u64 u.b] 38)
      have HBa : Hid (Below w.heap.size w (wc.drew.alloc (Obj.cells #[.int .i64 u.kind, .int .i64 u.a, .int .u64 u.b] 38))) := bstep hB.drew (Nat.le_refl _) hbn
      have c0a := (HC.out _ HBa.out).1
      have c0b := (HC.out _ (bstep hB (Nat.le_refl _) (below1 wc (Obj.cells #[.int .i64 u.kind, .int .i64 u.a, .int .u64 u.b] 38)))).1
      have hgs : g + 1 ≤ wc.heap.size := by omega
      clear hbn bu
      go_wp2_with fail
      go_region_law (refine step_append_sl _ rfl (.tmp 73) (.tmp 75) rfl elP eP_ok (base := g + 1) (xs := L) (HO.out _ HBa.out) (n := L.length) rfl rfl (m := 1) rfl (ys := [u]) rfl (Sl.new' eP_ok wc.drew u _ rfl _ rfl) (by simp only [maxLen]; omega) (by omega) (by simp [World.drew]; omega) _ rfl (L.length + 1) rfl ?_; intro A5 c5 w5 own5 hg5 at5; (have b5 : w5.cell? ⟨g, i * 2, none⟩ = some (.slice A L.length c) := by rw [World.cell?_of_block (hg5.block g (by simp [World.drew]; omega) (fun e => by have := HOB.out g e.symm; omega))]; exact c0a); (have f5 : w5.frozen? ⟨g, i * 2, none⟩ = false := by have := HFZ.out _ (i * 2) HBa.out; rw [← this]; exact frozen_of_block (hg5.block g (by simp [World.drew]; omega) (fun e => by have := HOB.out g e.symm; omega))))
      all_goals
        have HRS := Lib.hid (HPT.out _ _ HBa.out hg5 A5 c5 (L ++ [u]) own5 (by rcases at5 with e | e; exact .inl e; exact .inr (.inr ⟨_, e, Nat.le_refl _⟩)))
        have HBG : Hid (Kp F w w5) := (Kp.of_below HBa.out (fun b hb => (HFA.out b hb).1)).trans (Kp.grown hg5 (fun b hb => ⟨Nat.lt_of_lt_of_le (HFA.out b hb).1 HBa.out.size, (HFA.out b hb).2.2⟩))
        have hll : (L ++ [u]).length = L.length + 1 := by simp
        rw [hll] at HRS
        clear hll own5 hg5 at5
        go_wp2_with fail
        go_ret
        refine ⟨ret_int HPO.out.2.symm, ?_, HBG.out.trans (Kp.set_ (fun b hb => (HFA.out b hb).2.1) _ _)⟩
        rw [HPO.out.1]
        exact HRS.out
end Go.Proofs.Ytciijdajdmcllaa
