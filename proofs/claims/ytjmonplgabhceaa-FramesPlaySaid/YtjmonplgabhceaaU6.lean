/- The document's memory and the program's are the same. -/
import Derived.Test.YtjmonplgabhceaaU5
import Derived.Test.YtjmonplgabhceaaRely2
import Derived.Laws.BytesArg
import Derived.Deep.DeepCutAuto
import Derived.Deep.CutBlock
namespace Go.Proofs.Ytjmonplgabhceaa
open Go.RowKit Go.Lib

/-- string(b) of a row of bytes -/
theorem conv_row (w : World) (b off c : Nat) (L : List Int) (h : Sl eB 1 w (some ⟨b, off, none⟩) L) (n : Nat) (hn : L.length = n) :
    (convert 61 9 (.slice (some ⟨b, off, none⟩) n c)).run Try.prog w = .ok (.string (strOfNums L)) w := by
  refine run_convert_bytes_arg w 61 5 Try.underlying61 Try.underlying5 b off n c L hn (fun i hi => ?_) _ Try.underlying9
  have hi' : i < L.length := by omega
  obtain ⟨b', off', hA, hc⟩ := h (by omega)
  injection hA with hA
  injection hA with h1 h2
  subst h1 h2
  have := hc i L[i] 0 (.int .u8 L[i]) (List.getElem?_eq_getElem hi') rfl
  rw [Nat.mul_one, Nat.add_zero] at this
  rw [this, List.getD, List.getElem?_eq_getElem hi']
  rfl
/-- a row of bytes that was handed back -/
def BytesR (L : List Int) (v : Value) (w : World) : Prop := ∃ b off d, v = .slice (some ⟨b, off, none⟩) L.length d ∧ Sl eB 1 w (some ⟨b, off, none⟩) L
theorem BytesR.keep {L : List Int} {v : Value} {w w' : World} (h : BytesR L v w) (hr : Keeps w w') : BytesR L v w' := by
  obtain ⟨b, off, d, e, hs⟩ := h
  exact ⟨b, off, d, e, hs.keep hr⟩
theorem bytesR_of {P : Program} {f : FuncId} {args : Array Value} {L : List Int} {w : World} (h0 : 0 < L.length) (h : Calls P f args w (RetB L w)) : Calls P f args w fun e w'' => ∃ v, e = .returned v ∧ Keeps w w'' ∧ BytesR L v w'' :=
  h.mono fun e w'' ⟨O, d, he, hs, hb⟩ => by
    obtain ⟨b, off, hA, _⟩ := hs h0
    subst hA
    exact ⟨_, he, hb, b, off, d, rfl, hs⟩
theorem Dm.row {w : World} {q c : Nat} {R : List FrE} (h : Dm w (some ⟨q, 0, none⟩) c R) {i : Nat} (hi : i < R.length) : Sl eB 1 w (some ⟨q, i * 17 + 1, none⟩) ((List.range 16).map R[i].B) := fun _ => by
  refine ⟨q, i * 17 + 1, rfl, fun j x m u hx hu => ?_⟩
  have hj : j < 16 := by have := (List.getElem?_eq_some_iff.1 hx).1; simpa using this
  have hm : m = 0 := by
    have := (List.getElem?_eq_some_iff.1 hu).1
    simp [eB] at this
    exact this
  subst hm
  simp [eB] at hu
  subst hu
  rw [List.getElem?_map, List.getElem?_range hj] at hx
  simp at hx
  subst hx
  have := h.cell hi (eF_at R[i] hj)
  rw [show i * 17 + 1 + (j * 1 + 0) = i * 17 + (1 + j) by omega]
  exact this
set_option maxRecDepth 100000 in
set_option maxHeartbeats 4000000 in
theorem same_yes (g q c : Nat) (s : FrS) (R : List FrE) (w : World) (hF : Fm w g s) (hD : Dm w (some ⟨q, 0, none⟩) c R) (hM : Mt s R) :
    Calls Try.prog 15 #[.pointer (some ⟨g, 0, none⟩), .slice (some ⟨q, 0, none⟩) R.length c] w fun e w' => e = .returned (.bool true) ∧ Below w.heap.size w w' := by
  have hl := hD.len.2
  have HL := Lib.hid (len_any s g w hF)
  have HR := Lib.hid (rfree_any q c R w hD)
  rw [hM.freeN, hM.n] at HL
  have hn : ((R.length : Int) != (R.length : Int)) = false := by simp
  have hfr : ((freeD R R.length : Int) != (freeD R R.length : Int)) = false := by simp
  have HF := Lib.hid hF
  have HD := Lib.hid hD
  have HM := Lib.hid hM
  clear hF hD hM
  generalize freeD R R.length = fr at *
  go_enter Try.func15, Try.ntmps15
  go_wp2_with fail
  refine HL.out.mono ?_
  rintro e w2 ⟨rfl, rfl⟩
  go_wp2_with fail
  refine HR.out.mono ?_
  rintro e w2 ⟨rfl, rfl⟩
  go_wp2_with fail
  go_loopw [4, 7] (fun s4 s7 wr => ∃ k : Nat, k ≤ R.length ∧ s7 = .int .i64 k ∧ s4 = .bool false ∧ Below w.heap.size w wr) (fun _ i _ => R.length - (intOf i).toNat)
  case atStart => exact ⟨0, Nat.zero_le _, rfl, rfl, Below.refl _ _⟩
  case round =>
    obtain ⟨k, hk, rfl, rfl, hB⟩ := hrel
    have k0 : (0 : Int) ≤ (k : Int) := by omega
    by_cases hkn : k < R.length
    · have hFr := HF.out.keep hB
      have hDr := HD.out.keep hB
      have k1 : (k : Int) < (R.length : Int) := by omega
      have k32 : (k : Int) < 32 := by omega
      have c0 := hDr.cell hkn (j := 0) rfl
      rw [Nat.add_zero] at c0
      have HT : Hid (∀ W, Keeps wr W → Calls Try.prog 16 #[.pointer (some ⟨g, 0, none⟩), .int .i64 k] W fun e w' => e = .returned (.bool R[k].T) ∧ W = w') := fun W hW => by
        have := taken_any s g k W (hFr.keep hW)
        rw [HM.out.taken, isD_at hkn] at this
        exact this
      have HB : Hid (∀ W, Keeps wr W → Calls Try.prog 22 #[.pointer (some ⟨g, 0, none⟩), .int .i64 k] W (RetB ((List.range 16).map R[k].B) W)) := fun W hW => by
        have := bytes_yes s g k W (hFr.keep hW) (by rw [HM.out.n]; exact hkn)
        rw [HM.out.row hkn] at this
        exact this
      have hsw : ∀ n : Cls Keeps wr, (convert 61 9 (.slice (some ⟨q, k * 17 + 1, none⟩) 16 16)).run Try.prog n.w = .ok (.string (strOfNums ((List.range 16).map R[k].B))) n.w := fun n => conv_row n.w q (k * 17 + 1) 16 ((List.range 16).map R[k].B) ((hDr.keep n.ok).row hkn) 16 (by simp)
      have hlen : Hid (((List.range 16).map R[k].B).length = 16) := by unfold Hid; rw [List.length_map, List.length_range]
      have hbt : (R[k].T != R[k].T) = false := by simp
      have hst := True.intro
      clear hFr hDr
      generalize R[k].T = t at *
      generalize (List.range 16).map R[k].B = L at *
      generalize hst2 : strOfNums L = S at *
      have HST := Lib.hid hst2
      clear hst2
      go_upto_region 7 with (fail)
      have aft_c0 := kc_cell c0
      refine wp_region_rely Keeps way_keeps [41] (fun _ v w => BytesR L v w) (fun _ _ _ _ _ h hr => h.keep hr) 51 (by kernel_rfl) (by kernel_rfl) (by rfl) ?_
      repeat (first | (refine rl_q (by rfl) (by rfl) (by rfl) (by rfl) (fun K hK => ?_); go_big_quiet_op; refine hK _ ?_; clear hK K) | (refine rl_skip (by rfl) (by rfl) ?_; (try simp only [Act.put, List.setIfInBounds_toArray, List.set_cons_zero, List.set_cons_succ])) | (refine rl_call (by rfl) (by rfl) (by rfl) (by rfl) (fun K hK => ?_); go_simp; (try simp only [RUp, true_and]); first | (apply Exists.intro; refine ⟨fun n => ?_, hK _ ?_⟩; (with_reducible exact rup_same (HT.out _ n.ok)); clear hK K; (try simp only [Act.put, List.setIfInBounds_toArray, List.set_cons_zero, List.set_cons_succ])) | (apply Exists.intro; refine ⟨fun n => rfl, hK _ ?_⟩; clear hK K; (try simp only [Act.put, List.setIfInBounds_toArray, List.set_cons_zero, List.set_cons_succ]))) | (refine rl_n 41 [] (by rfl) (by rfl) (by rfl) (fun γ w hR hT => ?_) ?_; (go_simp; exact nup_f (Below.refl _ _) (bytesR_of (by rw [hlen.out]; omega) (HB.out _ hR))); (try simp only [Act.put, List.setIfInBounds_toArray, List.set_cons_zero, List.set_cons_succ])) | (refine rl_u (.string S) [41] (by rfl) (by rfl) (by simp) (by rfl) (fun γ w hR hT => ?_) ?_; (obtain ⟨b, off, d, e, hs⟩ := hT 41 (by simp); (have hc := conv_row w b off d L hs 16 hlen.out); simp only [putG, Act.put, List.setIfInBounds_toArray, List.set_cons_zero, List.set_cons_succ, e, hlen.out, HST.out] at *; go_simp; exact nup_v (Below.refl _ _) rfl); (try simp only [Act.put, List.setIfInBounds_toArray, List.set_cons_zero, List.set_cons_succ])))
      refine rl_end ?_
      intro γ w5 hb5 hT
      clear aft_c0
      simp only [putG, Act.put, List.setIfInBounds_toArray, List.set_cons_zero, List.set_cons_succ]
      have hB5 := bstep hB (Nat.le_refl _) hb5
      clear hB hb5 hT hsw c0
      go_wp2_with fail
      go_roundw
      case rel => exact ⟨k + 1, by omega, by go_num, rfl, hB5⟩
      case measure => simp [intOf]; omega
    · obtain rfl : k = R.length := by omega
      go_wp2_with fail
      go_ret
      exact ⟨rfl, hB⟩
end Go.Proofs.Ytjmonplgabhceaa
