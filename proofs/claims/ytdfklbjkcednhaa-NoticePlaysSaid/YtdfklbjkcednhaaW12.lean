/- Walks: List, Taken, and the chapter's example. -/
import Derived.Test.YtdfklbjkcednhaaW11
import Derived.Deep.DeepCutAuto
import Derived.Deep.CutBlock
namespace Go.Proofs.Ytdfklbjkcednhaa
open Go.RowKit Go.Lib

theorem elI : Elem Try.prog 44 3 1 8 := elem_mk Try.underlying44 (z := .int .i64 0) (by kernel_rfl) rfl (by omega)
set_option maxHeartbeats 1000000 in
theorem list_any {g c : Nat} {A : Option Addr} {L : List Nt} {VS : List Vc} (w : World) (hd : Bd w g A c L VS) (hl : L.length ≤ 1000) :
    Calls Try.prog 14 #[.pointer (some ⟨g, 0, none⟩)] w (RetCl L w) := by
  have c0 := hd.c0
  have hC := Lib.hid (clone_any A L c (g + 1) w hd.o hl)
  clear hd
  go_enter Try.func14, Try.ntmps14
  go_wp2_with fail
  with_reducible refine hC.out.mono ?_
  rintro e w2 ⟨O, d, rfl, hs, hb⟩
  go_wp2_with fail
  go_ret
  exact ⟨O, d, rfl, hs, hb⟩
def RetI (L : List Int) (w : World) (e : Ending) (w' : World) : Prop := ∃ (O : Option Addr) (d : Nat), e = .returned (.slice O L.length d) ∧ Sl eI 1 w' O L ∧ Below w.heap.size w w'
set_option maxHeartbeats 1000000 in
theorem clonei_any (q off : Nat) (L : List Int) (n c : Nat) (w : World) (hs : Sl eI 1 w (some ⟨q, off, none⟩) L) (hn : L.length = n) (hl : n ≤ 1000) :
    Calls Try.prog 25 #[.slice (some ⟨q, off, none⟩) n c] w (RetI L w) := by
  have hqq := fun w => Lib.run_eql_slice_nil (P := Try.prog) w 44 3 (some ⟨q, off, none⟩) n c 0 0 Try.underlying44
  have HN := Lib.hid hn
  clear hn
  go_enter Try.func25, Try.ntmps25
  go_wp2_with (at_builtin; refine wpList_append_sl _ rfl _ _ rfl elI eI_ok (Own.empty w 3 (base := w.heap.size) (Nat.le_refl _)) (n := 0) rfl rfl (m := n) rfl (ys := L) HN.out (hs.alloc _) (by simp only [maxLen]; omega) (by omega) (by simp) _ rfl n (by simp) ?_; intro A1 e1 w1 own1 hg1 at1; simp only [List.nil_append] at own1)
  go_ret
  exact ⟨A1, e1, by rw [HN.out]; rfl, own1.sl eI_ok, (below1 _ _).grown hg1 (by simp) (fun k hk => by simp [blk] at hk; omega)⟩
theorem VB.range {w : World} {g o : Nat} {t : TypeId} {pre post : List Value} {v : Vc} (h : VB w g o t pre post v) : w.rangeAt g o (vcC v) := fun j u hu => by
  have h1 := h.l
  by_cases hj : j < 16
  · unfold vcC at hu
    rw [List.getElem?_append_left (by simp; omega), List.getElem?_map, List.getElem?_eq_getElem (by omega)] at hu
    injection hu with hu
    rw [h.fr hj, ← hu]
    simp [show j < v.vF.length by omega]
  · have hj2 : j = 16 := by
      have := (List.getElem?_eq_some_iff.1 hu).1
      simp [vcC] at this
      omega
    subst hj2
    unfold vcC at hu
    rw [List.getElem?_append_right (by simp; omega)] at hu
    simp [h1] at hu
    rw [h.size, hu]
theorem vcC_len {v : Vc} (h : v.vF.length = 16) : (vcC v).length = 17 := by simp [vcC, h]
/-- the frames that count -/
def cntV (v : Vc) : List Int := v.vF.take v.vS
set_option maxRecDepth 100000 in
set_option maxHeartbeats 4000000 in
theorem taken_any {g c : Nat} {A : Option Addr} {L : List Nt} {VS : List Vc} (e : Nat) (w : World) (hd : Bd w g A c L VS) (he : e < 8) :
    Calls Try.prog 15 #[.pointer (some ⟨g, 0, none⟩), .int .i64 e] w (RetI (cntV (VS.getD e ⟨[], 0⟩)) w) := by
  have hv := hd.vec he
  have HR := Lib.hid hv.range
  have HL := Lib.hid (show (Try.prog.info? 28).map (·.size) = some (vcC (VS.getD e ⟨[], 0⟩)).length by rw [vcC_len hv.l]; kernel_rfl)
  have HO : Hid (∀ u ∈ vcC (VS.getD e ⟨[], 0⟩), u.oneCell' = true) := fun u hu => by
    unfold vcC at hu
    simp at hu
    rcases hu with ⟨a, _, rfl⟩ | rfl <;> rfl
  have hl16 := hv.l
  have hs16 := hv.s
  clear hd hv
  generalize VS.getD e ⟨[], 0⟩ = v at *
  obtain ⟨n, hn⟩ : ∃ n, n = v.vS := ⟨_, rfl⟩
  have hn16 : n ≤ 16 := by omega
  obtain ⟨M, hM⟩ : ∃ M, M = vcC v := ⟨_, rfl⟩
  rw [← hM] at HR HL HO
  have HM := Lib.hid (And.intro hM (And.intro hl16 hn))
  have e0 : (0 : Int) ≤ (e : Int) := by omega
  have e8 : ¬ (8 : Int) ≤ (e : Int) := by omega
  have HML : Hid (M.length = 17) := by unfold Hid; rw [hM]; exact vcC_len hl16
  have HZ : Hid (∀ w3, Blk w3 w.heap.size 28 M.toArray → w3.cell? ⟨w.heap.size, 16, none⟩ = some (.int .i64 n) ∧ Sl eI 1 w3 (some ⟨w.heap.size, 0, none⟩) (cntV v)) := fun w3 b3 => by
    refine ⟨b3.cell 16 _ ?_, fun h0 => ⟨w.heap.size, 0, rfl, fun i x j u hx hu => ?_⟩⟩
    · rw [List.getElem?_toArray, hM]
      unfold vcC
      rw [List.getElem?_append_right (by simp; omega)]
      simp [hl16, hn]
    · simp [eI] at hu
      have hi : i < v.vF.length := by
        have := (List.getElem?_eq_some_iff.1 hx).1
        simp [cntV] at this
        omega
      obtain ⟨hj, rfl⟩ : j = 0 ∧ .int .i64 x = u := by
        cases j with
        | zero => simp at hu; exact ⟨rfl, hu⟩
        | succ j => simp at hu
      subst hj
      have := b3.cell i (.int .i64 x) (by
        rw [List.getElem?_toArray, hM]
        unfold vcC
        rw [List.getElem?_append_left (by simp; exact hi), List.getElem?_map]
        unfold cntV at hx
        rw [List.getElem?_take] at hx
        split at hx
        · rw [hx]; rfl
        · cases hx)
      simpa using this
  have n16 : (n : Int) ≤ 16 := by omega
  have n0 : (0 : Int) ≤ (n : Int) := by omega
  have nA : (n : Int) ≤ ((Try.prog.arrayLen 26 : Nat) : Int) := by rw [show Try.prog.arrayLen 26 = 16 by kernel_rfl]; exact n16
  clear hM hl16 hn hs16
  go_enter Try.func15, Try.ntmps15
  go_wp2_with (first | (refine wpList_load_mid rfl 28 _ rfl g (1 + e * 17) rfl M _ HR.out Try.underlying28 rfl HL.out ?_) | (refine wpList_store_box w 28 _ M rfl _ _ rfl rfl rfl (by rw [HML.out]; rfl) HL.out HO.out ?_; intro w3 b3 hb3 hz3; (have H3 := Lib.hid (And.intro b3 (And.intro hb3 hz3))); obtain ⟨c16, hsl⟩ := HZ.out w3 b3; (have HSL := Lib.hid hsl); clear b3 hb3 hz3 hsl))
  with_reducible refine (clonei_any w.heap.size 0 (cntV v) n 16 w3 HSL.out ?_ (by omega)).mono ?_
  · have := HM.out.2
    unfold cntV
    rw [List.length_take]
    omega
  rintro e2 w4 ⟨O, d, rfl, hs, hb⟩
  have HF := Lib.hid (And.intro hs (bstep H3.out.2.1 (Nat.le_refl _) hb))
  clear hs hb
  go_wp2_with fail
  go_ret
  exact ⟨O, d, rfl, HF.out.1, HF.out.2⟩
/-- no environment -/
theorem taken_out {g : Nat} (e : Int) (w : World) (he : e < 0) : Calls Try.prog 15 #[.pointer (some ⟨g, 0, none⟩), .int .i64 e] w fun r w' => r = .returned (.slice none 0 0) ∧ w = w' := by
  go_enter Try.func15, Try.ntmps15
  go_wp2_with fail
  go_ret
  exact ⟨rfl, rfl⟩

/-! the chapter's example -/
def VS0 : List Vc := List.replicate 8 ⟨List.replicate 16 0, 0⟩
def zeroB : Array Value := (bdC none 0 0 VS0).toArray
theorem Bd.new (w : World) {g : Nat} (hg : w.heap.size = g) : Bd (w.alloc (.cells zeroB 31)) g none 0 [] VS0 :=
  ⟨Blk.new' w _ _ hg, Own.nil _ _ _, rfl, fun v hv => by rw [List.eq_of_mem_replicate hv]; exact ⟨rfl, Nat.zero_le _⟩⟩
theorem zero_board : ∀ w, (zeroValue 31).run Try.prog w = .ok (.agg zeroB) w := fun w => by kernel_rfl
set_option maxRecDepth 100000 in
set_option maxHeartbeats 4000000 in
theorem awake_any (w : World) : Calls Try.prog 5 #[] w fun e w' => e = .returned (.bool true) ∧ Below w.heap.size w w' := by
  have hb0 := Bd.new w rfl
  have hB0 := below1 w (.cells zeroB 31)
  have hW := want_ok 1 3 5 2 _ hb0 (by simp) (by decide)
  rw [show (if (0 : Int) ≤ plcN [] 1 3 then ([] : List Nt) else [] ++ [⟨1, 3, 5 + 2, 0⟩]) = [⟨1, 3, 7, 0⟩] by rfl, show (if (0 : Int) ≤ plcN [] 1 3 then (7 : Int) else 0) = 0 by rfl] at hW
  have HW := Lib.hid hW
  have HB0 := Lib.hid hB0
  clear hb0 hB0 hW
  have hz := zero_board
  go_enter Try.func5, Try.ntmps5
  go_upto_region 2 with (fail)
  go_wp2_with fail
  with_reducible refine HW.out.mono ?_
  rintro e w2 ⟨A1, c1, rfl, hb1, hn1⟩
  have HG : Hid (w.heap.size ≤ w2.heap.size ∧ Below w.heap.size w w2) := ⟨Nat.le_of_lt hb1.lt, (HB0.out).trans hn1.b⟩
  have hO1 := Lib.hid (over_any 6 w2 hb1 (by simp) (fun x hx => by simp at hx; subst hx; decide))
  clear hb1 hn1 HW HB0
  have hgw : w.heap.size ≤ w.heap.size := Nat.le_refl _
  generalize hgq : w.heap.size = g at hgw HG hO1 ⊢
  have hgw2 : g ≤ w.heap.size := Nat.le_of_eq hgq.symm
  have hgw3 := Lib.hid (Nat.le_of_eq hgq)
  clear hgq hgw
  go_wp2_with fail
  with_reducible refine hO1.out.mono ?_
  rintro e w3 ⟨O1, d1, T1, A2, c2, rfl, _, _, hp1, hb2, hn2⟩
  have hT1 : T1 = [] := by
    have : T1.Perm [] := hp1
    exact List.Perm.eq_nil this
  subst hT1
  have hB3 := HG.out.2.trans hn2.b
  replace hb2 : Bd w3 g A2 c2 [⟨1, 3, 7, 0⟩] VS0 := hb2
  have HO2 := Lib.hid (over_any 7 w3 hb2 (by simp) (fun x hx => by simp at hx; subst hx; decide))
  clear hO1 hb2 hn2 hp1 HG
  have HB3 := Lib.hid hB3
  clear hB3
  simp only [List.length_nil]
  go_wp2_with fail
  with_reducible refine HO2.out.mono ?_
  rintro e w4 ⟨O2, d2, T2, A3, c3, rfl, _, _, hp2, hb3, hn3⟩
  have hT2 : T2 = [⟨1, 3, 7, 0⟩] := by
    have : T2.Perm [⟨1, 3, 7, 0⟩] := hp2
    exact List.Perm.eq_singleton this
  subst hT2
  have HB4 := Lib.hid (HB3.out.trans hn3.b)
  have hT := taken_any 1 w4 hb3 (by omega)
  rw [show cntV ((List.foldl putVS VS0 [⟨1, 3, 7, 0⟩]).getD 1 ⟨[], 0⟩) = [3] by rfl] at hT
  rw [show ((1 : Nat) : Int) = 1 from rfl] at hT
  have HT := Lib.hid hT
  have hgl : g ≤ w4.heap.size := Nat.le_of_lt hb3.lt
  clear HO2 hb3 hn3 hp2 hT HB3
  simp only [List.length_singleton]
  go_wp2_with fail
  with_reducible refine HT.out.mono ?_
  rintro e w5 ⟨O3, d3, rfl, hs, hb5⟩
  obtain ⟨b, off, rfl, c0⟩ := hs.int_at (i := 0) (by simp)
  simp only [List.getElem_cons_zero, Nat.add_zero] at c0
  have HF := Lib.hid (bstep HB4.out hgw2 hb5)
  clear HB4 hs hb5 HT hz
  simp only [List.length_singleton]
  go_wp2_with fail
  go_ret
  exact ⟨rfl, HF.out.mono hgw3.out⟩
end Go.Proofs.Ytdfklbjkcednhaa
