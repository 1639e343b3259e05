/- Walks: the making of a table. -/
import Derived.Test.YtkhbnklaglnfdaaW1
import Derived.Deep.DeepCutAuto
import Derived.Deep.CutBlock
namespace Go.Proofs.Ytkhbnklaglnfdaa
open Go.RowKit

def MkRet (l : List Tk) (m : Nat) (w : World) (e : Ending) (w' : World) : Prop :=
  Below w.heap.size w w' ∧ match makeM l m with
    | none => e = .returned (.tuple #[.slice none 0 0, .int .i64 24])
    | some T => ∃ (O : Option Addr) (d : Nat), e = .returned (.tuple #[.slice O T.length d, .int .i64 0]) ∧ Own eI 1 w' w.heap.size 3 O d T
theorem mk_none {l : List Tk} {m : Nat} {w w' : World} (h : makeM l m = none) (hB : Below w.heap.size w w') : MkRet l m w (.returned (.tuple #[.slice none 0 0, .int .i64 24])) w' := by
  refine ⟨hB, ?_⟩
  rw [h]
theorem mk_some {l : List Tk} {m : Nat} {w w' : World} {T : List Int} (h : makeM l m = some T) {O : Option Addr} {n d : Nat} (hn : n = T.length) (hT : Own eI 1 w' w.heap.size 3 O d T) (hB : Below w.heap.size w w') : MkRet l m w (.returned (.tuple #[.slice O n d, .int .i64 0])) w' := by
  refine ⟨hB, ?_⟩
  rw [h]
  subst hn
  exact ⟨O, d, rfl, hT⟩
theorem below_none {w w' : World} (h : w.grownBy w' none) : Below w.heap.size w w' := ⟨h.os, h.tape, h.output, h.size, fun i hi => h.block i hi (by simp)⟩
theorem make_hyp {l : List Tk} {m : Nat} (h : hypM l m l.length = none) : makeM l m = none := by unfold makeM; rw [h]
theorem make_run {l : List Tk} {m r k : Nat} (h : hypM l m l.length = some r) (h2 : runM l k = none) (hk : k ≤ r) : makeM l m = none := by unfold makeM; rw [h]; simp only; rw [run_none h2 hk]
theorem make_inn {l : List Tk} {m r tick k : Nat} {L D T : List Int} (h : hypM l m l.length = some r) (hr : runM l tick = some (L, D, T)) (hi : innM l tick L D k = none) (hk : k ≤ l.length) (ht : tick < r) : makeM l m = none := by
  refine make_run h (k := tick + 1) ?_ ht
  rw [runM, hr]
  simp only
  rw [inn_none hi hk]
theorem make_late {l : List Tk} {m r : Nat} {L D T : List Int} (h : hypM l m l.length = some r) (hr : runM l r = some (L, D, T)) : makeM l m = if lateM L = true then none else some T := by
  unfold makeM; rw [h]; simp only; rw [hr]
theorem own_gt {w : World} {base : Nat} {e : TypeId} {O : Option Addr} {d : Nat} {xs : List Int} (h : Own eI 1 w base e O d xs) {g : Nat} (hg : g < base) : blk O = none ∨ blk O ≠ some g := by
  right
  intro e
  have := (h.lt g e).1
  omega
theorem own_ltg {w : World} {base : Nat} {e : TypeId} {O : Option Addr} {d : Nat} {xs : List Int} (h : Own eI 1 w base e O d xs) {g : Nat} (hg : g < base) : blk (some (⟨g, 0, none⟩ : Addr)) = none ∨ blk (some (⟨g, 0, none⟩ : Addr)) ≠ blk O := by
  right
  intro e
  have := (h.lt g e.symm).1
  omega
theorem own_tAt {w : World} {base : Nat} {e : TypeId} {g d : Nat} {xs : List Int} (h : Own eI 1 w base e (some ⟨g, 0, none⟩) d xs) {i : Nat} (hi : i < xs.length) : w.cell? ⟨g, i, none⟩ = some (.int .i64 (tAt xs i)) := by rw [tAt_eq hi]; exact own_at h hi
theorem own_mono {w : World} {b1 b2 : Nat} {e : TypeId} {O : Option Addr} {d : Nat} {xs : List Int} (h : Own eI 1 w b1 e O d xs) (hb : b2 ≤ b1) : Own eI 1 w b2 e O d xs := by
  refine ⟨h.1, ?_⟩
  rcases h.2 with h1 | ⟨g, cap, cur, a1, a2, a3⟩
  · exact .inl h1
  · exact .inr ⟨g, cap, cur, a1, by omega, a3⟩
theorem late_t {L : List Int} {k : Nat} (hk : k < L.length) (h : 0 < L[k]) : lateM L = true := List.any_eq_true.2 ⟨L[k], List.getElem_mem hk, decide_eq_true h⟩
theorem late_f {L : List Int} (h : ∀ j (hj : j < L.length), ¬ 0 < L[j]) : lateM L = false := by
  rw [lateM, List.any_eq_false]
  intro x hx
  obtain ⟨j, hj, rfl⟩ := List.getElem_of_mem hx
  simpa using h j hj

set_option maxRecDepth 100000 in
set_option maxHeartbeats 8000000 in
theorem make_yes (A : Option Addr) (l : List Tk) (c : Nat) (m : Nat) (w : World) (hs : Sl eT 3 w A l) (hm : l.length ≤ 9223372036854775807) (h : allT l = true) (h1 : 1 ≤ m) (h2 : m ≤ 4096) :
    Calls Try.prog 12 #[.slice A l.length c, .int .i64 m] w (MkRet l m w) := by
  have HA := Lib.hid (tAll_any A l c w hs hm)
  have HY := Lib.hid (fun W hW => hyp_yes A l c m W hW hm h h1 (by omega))
  have hs8 := allT_len h
  rw [h] at HA
  have H := Lib.hid h
  clear h
  have hi2 : (m : Int) ≤ 4096 := by omega
  have hi3 : (1 : Int) ≤ (m : Int) := by omega
  obtain ⟨i0, hi0, hz0, hz1', hz2⟩ := info_parts info_int
  cases hh : hypM l m l.length with
  | none =>
    rw [hh] at HY
    simp only [hypT, Option.getD_none, Option.isSome_none] at HY
    have HM := Lib.hid (make_hyp hh)
    clear hh
    go_enter Try.func12, Try.ntmps12
    go_wp2_with (first | (go_at_call 18; (with_reducible refine HA.out.mono ?_); rintro e w2 ⟨rfl, hB⟩) | (go_at_call 20; (with_reducible refine (HY.out _ (hs.keep hB)).mono ?_); rintro e w3 ⟨rfl, hb⟩; replace hB := bstep hB (Nat.le_refl _) hb; clear hb))
    go_ret2
    exact mk_none HM.out hB
  | some r =>
    rw [hh] at HY
    simp only [hypT, Option.getD_some, Option.isSome_some] at HY
    have hr := hyp_pos (allT_mem H.out) h1 (Nat.le_refl _) hh
    have HH := Lib.hid hh
    clear hh
    go_enter Try.func12, Try.ntmps12
    go_wp2_with (first | (go_at_call 18; (with_reducible refine HA.out.mono ?_); rintro e w2 ⟨rfl, hB⟩) | (go_at_call 20; (with_reducible refine (HY.out _ (hs.keep hB)).mono ?_); rintro e w3 ⟨rfl, hb⟩; replace hB := bstep hB (Nat.le_refl _) hb; (have hBs := hB.size); clear hb) | (at_make; (have hown := ownL); refine wpList_make_full _ rfl _ _ 23 rfl w.heap.size 3 i0 _ 1 Try.underlying23 hi0 hz0 hz1' _ _ _ _ l.length rfl rfl (by omega) (by omega) (by rw [hz2]; omega) (by simp only [maxLen]; omega) hBs ?_; intro w5 ownH hg; rw [made_ints] at ownH; (have ownD : Own eI 1 w5 w.heap.size 3 (some ⟨w4.heap.size, 0, none⟩) l.length (List.replicate l.length 0) := by simpa [Own] using ownH); (have hb := below_none hg); replace ownL := ownL.keep hb; replace hB := bstep hB (Nat.le_refl _) hb; replace hBs := hB.size; (have hLD : w3.heap.size < w4.heap.size := (hown.lt _ rfl).2); (have hD5 : w4.heap.size < w5.heap.size := (ownD.lt _ rfl).2); clear hg hb ownH hown) | (at_make; refine wpList_make_full _ rfl _ _ 23 rfl w.heap.size 3 i0 _ 1 Try.underlying23 hi0 hz0 hz1' _ _ _ _ l.length rfl rfl (by omega) (by omega) (by rw [hz2]; omega) (by simp only [maxLen]; omega) hBs ?_; intro w4 ownH hg; rw [made_ints] at ownH; (have ownL : Own eI 1 w4 w.heap.size 3 (some ⟨w3.heap.size, 0, none⟩) l.length (List.replicate l.length 0) := by simpa [Own] using ownH); (have hb := below_none hg); replace hB := bstep hB (Nat.le_refl _) hb; (have hBs0 := hBs); replace hBs := hB.size; clear hg hb ownH) | (at_make; refine wpList_make_own _ rfl _ _ 23 rfl w5.heap.size 3 i0 _ 1 Try.underlying23 hi0 hz0 hz1' _ _ _ r rfl rfl (by omega) (by rw [hz2]; omega) (by simp only [maxLen]; omega) (Nat.le_refl _) ?_; intro w6 ownW hg; (have ownT : Own eI 1 w6 w5.heap.size 3 (some ⟨w5.heap.size, 0, none⟩) r [] := by simpa [Own] using ownW); (have hb := below_none hg); replace ownL := ownL.keep hb; replace ownD := ownD.keep hb; replace hB := bstep hB (Nat.le_refl _) hb; clear hg hb ownW))
    have hgL : w.heap.size ≤ w3.heap.size := hBs0
    have hgD : w.heap.size ≤ w4.heap.size := by omega
    clear HA HY hBs hBs0
    generalize w3.heap.size = gL at *
    generalize w4.heap.size = gD at *
    generalize w5.heap.size = B3 at *
    have hB3 : B3 ≤ w6.heap.size := Nat.le_of_lt (ownT.lt B3 rfl).2
    go_loopw [10, 44] (fun v i wo => ∃ (tick : Nat) (L D T : List Int) (O : Option Addr) (d : Nat), tick ≤ r ∧ i = .int .i64 tick ∧ v = .slice O tick d ∧ Hid (runM l tick = some (L, D, T)) ∧ Hid (T.length = tick) ∧ Hid (L.length = l.length ∧ D.length = l.length ∧ ∀ x ∈ L, 0 ≤ x ∧ x ≤ 1048576) ∧ Own eI 1 wo w.heap.size 3 (some ⟨gL, 0, none⟩) l.length L ∧ Own eI 1 wo w.heap.size 3 (some ⟨gD, 0, none⟩) l.length D ∧ Own eI 1 wo B3 3 O d T ∧ B3 ≤ wo.heap.size ∧ Below w.heap.size w wo) (fun _ i _ => r - (intOf i).toNat)
    case atStart => exact ⟨0, _, _, [], _, _, Nat.zero_le _, rfl, rfl, rfl, rfl, ⟨List.length_replicate, List.length_replicate, fun x hx => by rw [List.eq_of_mem_replicate hx]; omega⟩, ownL, ownD, ownT, hB3, hB⟩
    case round =>
      clear ownL ownD ownT hB3 hB
      obtain ⟨tick, L, D, T, O, d, htk, rfl, rfl, HR, HT, HL, ownL, ownD, ownT, hB3, hB⟩ := hrel
      by_cases hlt : tick < r
      · have t0 : (tick : Int) < (r : Int) := by omega
        have t1 : (tick : Int) ≤ 4096 := by omega
        go_wp2_with fail
        go_loopw [12, 49] (fun v i wo => ∃ (k : Nat) (L' D' : List Int) (f : Int), k ≤ l.length ∧ i = .int .i64 k ∧ v = .int .i64 f ∧ Hid (innM l tick L D k = some (L', D', f)) ∧ OkM l.length k L' D' f ∧ Own eI 1 wo w.heap.size 3 (some ⟨gL, 0, none⟩) l.length L' ∧ Own eI 1 wo w.heap.size 3 (some ⟨gD, 0, none⟩) l.length D' ∧ Own eI 1 wo B3 3 O d T ∧ B3 ≤ wo.heap.size ∧ Below w.heap.size w wo) (fun _ i _ => l.length - (intOf i).toNat)
        case atStart => exact ⟨0, L, D, -1, Nat.zero_le _, rfl, rfl, rfl, ⟨HL.out.1, HL.out.2.1, by omega, by omega, HL.out.2.2, fun h => absurd h (by omega)⟩, ownL, ownD, ownT, hB3, hB⟩
        case round =>
          clear ownL ownD ownT hB3 hB
          obtain ⟨k, L', D', f, hk, rfl, rfl, HI, HO, ownL, ownD, ownT, hB3, hB⟩ := hrel
          by_cases hkl : k < l.length
          · obtain ⟨b, off, rfl, c0, c1, c2⟩ := (hs.keep hB).tk_at hkl
            have k0 : (0 : Int) ≤ (k : Int) := by omega
            have k1 : (k : Int) < (l.length : Int) := by omega
            have hrt := allT_at H.out hkl
            have HRT := Lib.hid (allT_mem H.out _ (List.getElem_mem hkl))
            have HI2 : Hid (innM l tick L D (k + 1) = stepM l[k] tick k L' D' f) := by
              show _ = _
              rw [innM, HI.out, getD_tk hkl]
            clear HI
            have hgr : gD < wr.heap.size := (ownD.lt gD rfl).2
            have hB3r := Nat.le_trans hB3 (below1 wr (Obj.cells #[.int .i64 l[k].cost, .int .i64 l[k].period, .int .i64 l[k].dead] 29)).size
            replace ownL := ownL.alloc (Obj.cells #[.int .i64 l[k].cost, .int .i64 l[k].period, .int .i64 l[k].dead] 29)
            replace ownD := ownD.alloc (Obj.cells #[.int .i64 l[k].cost, .int .i64 l[k].period, .int .i64 l[k].dead] 29)
            replace ownT := ownT.alloc (Obj.cells #[.int .i64 l[k].cost, .int .i64 l[k].period, .int .i64 l[k].dead] 29)
            have bk := Blk.new wr 29 #[.int .i64 l[k].cost, .int .i64 l[k].period, .int .i64 l[k].dead]
            have yL := own_at ownL (i := k) (by rw [HO.len]; exact hkl)
            have yD := own_at ownD (i := k) (by rw [HO.len2]; exact hkl)
            rw [← tAt_eq] at yL yD
            have fL := own_frozen ownL k
            have fD := own_frozen ownD k
            have z0 := bk.cell 0 (.int .i64 l[k].cost) rfl
            have z1 := bk.cell 1 (.int .i64 l[k].period) rfl
            have z2 := bk.cell 2 (.int .i64 l[k].dead) rfl
            clear bk
            have HX : Hid (∀ L1 D1 f1, stepM l[k] tick k L' D' f = some (L1, D1, f1) → OkM l.length (k + 1) L1 D1 f1) := fun L1 D1 f1 h => step_ok HRT.out hkl HO h
            have HST : Hid (stepM l[k] tick k L' D' f = if 0 < tAt L' k ∧ tAt D' k ≤ tick then none else if (tick : Int) % l[k].period = 0 then some (L'.set k l[k].cost, D'.set k (tick + l[k].dead), pickM (L'.set k l[k].cost) (D'.set k (tick + l[k].dead)) k f) else some (L', D', pickM L' D' k f)) := rfl
            have hf := And.intro HO.lo HO.hi
            have HLD := Lib.hid HO.len2
            clear HO HRT
            generalize hxL : tAt L' k = x at *
            generalize hxD : tAt D' k = y at *
            generalize hst : stepM l[k] tick k L' D' f = st at *
            generalize l[k] = t at *
            clear hxL hxD hst
            have hbn := below1 wr (Obj.cells #[.int .i64 t.cost, .int .i64 t.period, .int .i64 t.dead] 29)
            by_cases hlate : 0 < x ∧ y ≤ (tick : Int)
            · obtain ⟨hx0, hy0⟩ := hlate
              go_wp2_with fail
              go_ret2
              refine mk_none (make_inn HH.out HR.out (k := k + 1) ?_ (by omega) hlt) (bstep hB (Nat.le_refl _) hbn)
              rw [HI2.out, HST.out, if_pos ⟨hx0, hy0⟩]
            · have HST2 : Hid (st = if (tick : Int) % t.period = 0 then some (L'.set k t.cost, D'.set k (tick + t.dead), pickM (L'.set k t.cost) (D'.set k (tick + t.dead)) k f) else some (L', D', pickM L' D' k f)) := by
                have := HST.out
                rw [if_neg hlate] at this
                exact this
              clear HST
              have hm0 : (0 : Int) ≤ (tick : Int) % t.period := Int.emod_nonneg _ (by omega)
              have hm1 : (tick : Int) % t.period < t.period := Int.emod_lt_of_pos _ (by omega)
              have hm2 : (tick : Int).tmod t.period = (tick : Int) % t.period := Int.tmod_eq_emod_of_nonneg (by omega)
              have hp0 : ¬ t.period = 0 := by omega
              go_upto_region 16 with (fail)
              go_cut [66] (fun s66 wx => s66 = .bool false ∧ wx = wr.alloc (Obj.cells #[.int .i64 t.cost, .int .i64 t.period, .int .i64 t.dead] 29))
              case first =>
                by_cases hx0 : 0 < x
                · have hy0 : (tick : Int) < y := by omega
                  go_wp2_with fail
                  go_meet
                  exact ⟨congrArg Value.bool (decide_eq_false (by omega)), rfl⟩
                · go_wp2_with fail
                  go_meet
                  exact ⟨rfl, rfl⟩
              obtain ⟨rfl, hwc⟩ := hcut
              rw [← hwc] at ownL ownD ownT fL fD z0 z1 z2 yL yD hbn hB3r
              clear hwc
              obtain ⟨wx, rfl⟩ : ∃ wx : World, wx = wc := ⟨_, rfl⟩
              go_upto_if 71 with (fail)
              go_cut [13] (fun s13 wx => s13 = .int .i64 k ∧ ∃ (L2 D2 : List Int), Hid (st = some (L2, D2, pickM L2 D2 k f)) ∧ Own eI 1 wx w.heap.size 3 (some ⟨gL, 0, none⟩) l.length L2 ∧ Own eI 1 wx w.heap.size 3 (some ⟨gD, 0, none⟩) l.length D2 ∧ Own eI 1 wx B3 3 O d T ∧ B3 ≤ wx.heap.size ∧ Below w.heap.size w wx)
              case first =>
                have hB2 := bstep hB (Nat.le_refl _) hbn
                by_cases hz : (tick : Int) % t.period = 0
                · have HST3 : Hid (st = some (L'.set k t.cost, D'.set k (tick + t.dead), pickM (L'.set k t.cost) (D'.set k (tick + t.dead)) k f)) := by
                    have := HST2.out
                    rw [if_pos hz] at this
                    exact this
                  clear HST2
                  have hstL := own_set ownL k t.cost
                  have ownD1 := ownD.kept hstL.2 (.inr (by simp [blk]; omega))
                  have ownT1 := ownT.kept hstL.2 (own_gt ownT (by omega))
                  have hstD := own_set ownD1 k (tick + t.dead)
                  have ownL2 := hstL.1.kept hstD.2 (.inr (by simp [blk]; omega))
                  have ownT2 := ownT1.kept hstD.2 (own_gt ownT1 (by omega))
                  have fD1 := own_frozen ownD1 k
                  obtain ⟨y1, yD1⟩ : ∃ y1, (wx.setCell ⟨gL, k, none⟩ (.int .i64 t.cost)).cell? ⟨gD, k, none⟩ = some (.int .i64 y1) := ⟨_, own_at ownD1 (i := k) (by rw [HLD.out]; exact hkl)⟩
                  have hB4 := (hB2.setCell (p := ⟨gL, k, none⟩) hgL (.int .i64 t.cost)).setCell (p := ⟨gD, k, none⟩) hgD (.int .i64 (tick + t.dead))
                  have hw : (tick : Int) + t.dead ≤ 1052672 := by omega
                  go_wp2_with fail
                  go_region
                  all_goals
                    go_wp2_with fail
                    go_meet
                  exact ⟨rfl, _, _, HST3.out, ownL2.drew, hstD.1.drew, ownT2.drew, by simpa [World.drew] using hB3r, hB4.drew⟩
                · have HST3 : Hid (st = some (L', D', pickM L' D' k f)) := by
                    have := HST2.out
                    rw [if_neg hz] at this
                    exact this
                  go_wp2_with fail
                  go_meet
                  exact ⟨rfl, L', D', HST3.out, ownL, ownD, ownT, hB3r, hB2⟩
              clear c0 c1 c2 z0 z1 z2 yL yD fL fD ownL ownD ownT hB3r hbn hm0 hm1 hm2 hp0 hB hB3 hgr
              obtain ⟨rfl, L2, D2, HS, ownL, ownD, ownT, hB3, hB⟩ := hcut
              have HO := HX.out _ _ _ HS.out
              have yL := own_at ownL (i := k) (by rw [HO.len]; exact hkl)
              have yD := own_at ownD (i := k) (by rw [HO.len2]; exact hkl)
              have HPK : Hid (pickM L2 D2 k f = if 0 < tAt L2 k ∧ (f < 0 ∨ tAt D2 k < tAt D2 f.toNat) then (k : Int) else f) := rfl
              rw [← tAt_eq] at yL yD
              have HZ := Lib.hid (fun j (hj : j < l.length) => own_tAt ownD (i := j) (by rw [HO.len2]; exact hj))
              have HI3 : Hid (innM l tick L D (k + 1) = some (L2, D2, pickM L2 D2 k f)) := HI2.out.trans HS.out
              have HO2 := Lib.hid HO
              clear HI2 HS HX HST2 HO
              generalize pickM L2 D2 k f = f2 at *
              generalize tAt L2 k = x2 at *
              generalize hyy : tAt D2 k = y2 at *
              clear hyy
              by_cases hx2 : 0 < x2
              · by_cases hf0 : f < 0
                · obtain rfl : f2 = (k : Int) := by rw [HPK.out, if_pos ⟨hx2, .inl hf0⟩]
                  go_wp2_with fail
                  go_quiet (fail)
                  go_wp2_with fail
                  go_roundw
                  case rel => exact ⟨k + 1, L2, D2, k, by omega, by go_num, rfl, HI3.out, HO2.out, ownL.drewN _, ownD.drewN _, ownT.drewN _, hB3, bdrewN hB _⟩
                  case measure => simp [intOf]; omega
                · obtain ⟨j, rfl⟩ := Int.eq_ofNat_of_zero_le (show 0 ≤ f by omega)
                  have hj0 : (0 : Int) ≤ (j : Int) := by omega
                  have hj1 : (j : Int) < (l.length : Int) := by omega
                  have yJ := HZ.out j (by omega)
                  rw [Int.toNat_natCast] at HPK
                  generalize tAt D2 j = yj at *
                  by_cases hyy : y2 < yj
                  · obtain rfl : f2 = (k : Int) := by rw [HPK.out, if_pos ⟨hx2, .inr hyy⟩]
                    go_wp2_with fail
                    go_quiet (fail)
                    go_wp2_with fail
                    go_roundw
                    case rel => exact ⟨k + 1, L2, D2, k, by omega, by go_num, rfl, HI3.out, HO2.out, ownL.drewN _, ownD.drewN _, ownT.drewN _, hB3, bdrewN hB _⟩
                    case measure => simp [intOf]; omega
                  · obtain rfl : f2 = (j : Int) := by rw [HPK.out, if_neg (by omega)]
                    have hyy' : yj ≤ y2 := by omega
                    go_wp2_with fail
                    go_quiet (fail)
                    go_wp2_with fail
                    go_roundw
                    case rel => exact ⟨k + 1, L2, D2, j, by omega, by go_num, rfl, HI3.out, HO2.out, ownL.drewN _, ownD.drewN _, ownT.drewN _, hB3, bdrewN hB _⟩
                    case measure => simp [intOf]; omega
              · obtain rfl : f2 = f := by rw [HPK.out, if_neg (by omega)]
                have hx3 : decide (0 < x2) = false := decide_eq_false hx2
                go_wp2_with fail
                replace hx3 : decide (0 < x2) = false := decide_eq_false (by omega)
                go_quiet (fail)
                go_wp2_with fail
                go_roundw
                case rel => exact ⟨k + 1, L2, D2, f2, by omega, by go_num, rfl, HI3.out, HO2.out, ownL.drewN _, ownD.drewN _, ownT.drewN _, hB3, bdrewN hB _⟩
                case measure => simp [intOf]; omega
          · obtain rfl : k = l.length := by omega
            have HR2 : Hid (runM l (tick + 1) = some (lessM L' f, D', T ++ [f])) := by
              show _ = _
              rw [runM, HR.out]
              simp only
              rw [HI.out]
            have HLB := Lib.hid (less_ok HO)
            have HLD := Lib.hid HO.len2
            have HLN := Lib.hid HO.len
            have HP := Lib.hid HO.bd
            have hf := And.intro HO.lo HO.hi
            have HTA : Hid ((T ++ [f]).length = tick + 1) := by
              show _ = _
              rw [List.length_append, HT.out]
              rfl
            clear HO HI
            by_cases hf0 : f < 0
            · have HLE : Hid (lessM L' f = L') := by
                show _ = _
                unfold lessM
                rw [if_neg (by omega)]
              rw [HLE.out] at HR2 HLB
              have hf1 : ¬ (0 : Int) ≤ f := by omega
              go_wp2_with (first | (at_builtin; refine wpList_append_sl _ rfl _ _ rfl elI eI_ok (ownT.alloc _) (n := tick) HT.out rfl (m := 1) rfl (ys := [f]) rfl (Sl.new eI_ok wr _ _ rfl _) (by simp only [maxLen]; omega) (by omega) (by simp; omega) _ rfl (tick + 1) rfl ?_; intro O2 e5 w7 own5 hg5 at5; (have ownL5 := (ownL.alloc _).kept hg5 (own_ltg ownT (by omega))); (have ownD5 := (ownD.alloc _).kept hg5 (own_ltg ownT (by omega))); (have hb5 := below1 wr (Obj.cells #[.int .i64 f] 3)); (have hB5 : Below w.heap.size w w7 := bgrow (bstep hB (Nat.le_refl _) hb5) hg5 (fun q hq => Nat.le_trans (by omega) (ownT.lt q hq).1)); (have hB35 : B3 ≤ w7.heap.size := Nat.le_trans hB3 (Nat.le_trans hb5.size hg5.size)); clear hg5 at5 ownT ownL ownD hB hb5))
              go_roundw
              case rel => exact ⟨tick + 1, L', D', T ++ [f], O2, e5, by omega, by go_num, rfl, HR2.out, HTA.out, ⟨HLN.out, HLD.out, HP.out⟩, ownL5, ownD5, own5, hB35, hB5⟩
              case measure => simp [intOf]; omega
            · obtain ⟨j, rfl⟩ := Int.eq_ofNat_of_zero_le (show 0 ≤ f by omega)
              have hj0 : (0 : Int) ≤ (j : Int) := by omega
              have hj1 : (j : Int) < (l.length : Int) := by omega
              have hjl : j < L'.length := by rw [HLN.out]; omega
              have yJ := own_at ownL (i := j) hjl
              have hbj := HP.out _ (List.getElem_mem hjl)
              have HLE : Hid (lessM L' (j : Int) = L'.set j (L'[j] - 1)) := by
                show _ = _
                unfold lessM
                rw [if_pos (by omega), Int.toNat_natCast, tAt_eq hjl]
              rw [HLE.out] at HR2 HLB
              have hst := own_set ownL j (L'[j] - 1)
              have ownD1 := ownD.kept hst.2 (.inr (by simp [blk]; omega))
              have ownT1 := ownT.kept hst.2 (own_gt ownT (by omega))
              have hB1 := hB.setCell (p := ⟨gL, j, none⟩) hgL (.int .i64 (L'[j] - 1))
              have fJ := own_frozen ownL j
              have hB31 : B3 ≤ (wr.setCell ⟨gL, j, none⟩ (.int .i64 (L'[j] - 1))).heap.size := by simp; omega
              obtain ⟨ownL1, hgr1⟩ := hst
              generalize L'.set j (L'[j] - 1) = LN at *
              generalize L'[j] = z at *
              clear ownD ownT ownL hB hB3 hgr1
              go_wp2_with (first | (at_builtin; refine wpList_append_sl _ rfl _ _ rfl elI eI_ok (ownT1.alloc _) (n := tick) HT.out rfl (m := 1) rfl (ys := [(j : Int)]) rfl (Sl.new' eI_ok (wr.setCell ⟨gL, j, none⟩ (.int .i64 (z - 1))) _ _ rfl _ (by simp)) (by simp only [maxLen]; omega) (by omega) (Nat.le_trans hB31 (below1 _ _).size) _ rfl (tick + 1) rfl ?_; intro O2 e5 w7 own5 hg5 at5; (have ownL5 := (ownL1.alloc _).kept hg5 (own_ltg ownT1 (by omega))); (have ownD5 := (ownD1.alloc _).kept hg5 (own_ltg ownT1 (by omega))); (have hb5 := below1 (wr.setCell ⟨gL, j, none⟩ (.int .i64 (z - 1))) (Obj.cells #[.int .i64 (j : Int)] 3)); (have hB5 : Below w.heap.size w w7 := bgrow (bstep hB1 (Nat.le_refl _) hb5) hg5 (fun q hq => Nat.le_trans (by omega) (ownT1.lt q hq).1)); (have hB35 : B3 ≤ w7.heap.size := Nat.le_trans hB31 (Nat.le_trans hb5.size hg5.size)); clear hg5 at5 ownT1 ownL1 ownD1 hB1 hb5))
              go_roundw
              case rel => exact ⟨tick + 1, LN, D', T ++ [(j : Int)], O2, e5, by omega, by go_num, rfl, HR2.out, HTA.out, ⟨HLB.out.1, HLD.out, HLB.out.2⟩, ownL5, ownD5, own5, hB35, hB5⟩
              case measure => simp [intOf]; omega
      · obtain rfl : tick = r := by omega
        have HMK := Lib.hid (make_late HH.out HR.out)
        have HLN := Lib.hid HL.out.1
        clear HR HL
        go_wp2_with fail
        go_loop [121] (fun i => ∃ k : Nat, k ≤ l.length ∧ i = .int .i64 k ∧ Hid (∀ j (hj : j < L.length), j < k → ¬ 0 < L[j])) (fun i => l.length - (intOf i).toNat)
        case atStart => exact ⟨0, Nat.zero_le _, rfl, fun j hj h => absurd h (by omega)⟩
        case round =>
          obtain ⟨k, hk, rfl, HK⟩ := hrel
          by_cases hkl : k < l.length
          · have hkL : k < L.length := by rw [HLN.out]; exact hkl
            have k0 : (0 : Int) ≤ (k : Int) := by omega
            have k1 : (k : Int) < (l.length : Int) := by omega
            have yL := own_at ownL (i := k) hkL
            have HC : Hid (0 < L[k] → makeM l m = none) := fun h => by
              rw [HMK.out, if_pos (late_t hkL h)]
            have HC2 : Hid (¬ 0 < L[k] → ∀ j (hj : j < L.length), j < k + 1 → ¬ 0 < L[j]) := fun h j hj hjk => by
              by_cases he : j = k
              · subst he; exact h
              · exact HK.out j hj (by omega)
            clear HK
            generalize L[k] = z at *
            by_cases hz : 0 < z
            · go_wp2_with fail
              go_ret2
              exact mk_none (HC.out hz) hB
            · go_wp2_with fail
              go_round
              case rel => exact ⟨k + 1, by omega, by go_num, HC2.out hz⟩
              case measure => simp [intOf]; omega
          · obtain rfl : k = l.length := by omega
            have HC : Hid (makeM l m = some T) := by
              show _ = _
              rw [HMK.out, if_neg (by rw [late_f (fun j hj => HK.out j hj (by rw [← HLN.out]; exact hj))]; exact Bool.false_ne_true)]
            go_wp2_with fail
            go_ret2
            exact mk_some HC.out HT.out.symm (own_mono ownT (by omega)) hB
end Go.Proofs.Ytkhbnklaglnfdaa
