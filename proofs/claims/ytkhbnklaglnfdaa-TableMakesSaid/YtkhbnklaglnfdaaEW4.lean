/- Walks over the reference of package edf: who has each tick. -/
import Derived.Test.YtkhbnklaglnfdaaEW3
namespace Go.Proofs.Ytkhbnklaglnfdaa.Edf
open Go.RowKit

theorem own_set {w : World} {base : Nat} {e : TypeId} {g d : Nat} {xs : List Int} (h : Own eI 1 w base e (some ⟨g, 0, none⟩) d xs) (i : Nat) (x : Int) :
    Own eI 1 (w.setCell ⟨g, i, none⟩ (.int .i64 x)) base e (some ⟨g, 0, none⟩) d (xs.set i x) ∧ w.grownBy (w.setCell ⟨g, i, none⟩ (.int .i64 x)) (some g) := by
  have h1 := own_int_set h i x
  unfold Own
  rw [List.length_set]
  exact h1
theorem own_frozen {w : World} {base : Nat} {e : TypeId} {g d : Nat} {xs : List Int} (h : Own eI 1 w base e (some ⟨g, 0, none⟩) d xs) (i : Nat) : w.frozen? ⟨g, i, none⟩ = false := World.ownsRow.frozenAt h i
theorem own_at {w : World} {base : Nat} {e : TypeId} {g d : Nat} {xs : List Int} (h : Own eI 1 w base e (some ⟨g, 0, none⟩) d xs) {i : Nat} (hi : i < xs.length) : w.cell? ⟨g, i, none⟩ = some (.int .i64 xs[i]) := own_int_at h rfl hi

set_option maxRecDepth 100000 in
set_option maxHeartbeats 4000000 in
theorem refRun_any (A : Option Addr) (js : List Job) (c : Nat) (T : Nat) (w : World) (hs : Sl eJ 3 w A js) (hl : js.length ≤ 6000) (hT : T ≤ 2048) (hok : ∀ j ∈ js, okJ j = true) :
    Calls Try.prog 22 #[.slice A js.length c, .int .i64 T] w (RetSl eI 1 3 (fillAll js T (byDeadTo js js.length) js.length) w) := by
  go_enter Try.func22, Try.ntmps22
  go_wp2
  go_loopw [5, 6] (fun v i wr => ∃ (k : Nat) (O : Option Addr) (d : Nat), k ≤ T ∧ i = .int .i64 k ∧ v = .slice O k d ∧ Own eI 1 wr w.heap.size 3 O d (List.replicate k (-1)) ∧ Below w.heap.size w wr) (fun _ i _ => T - (intOf i).toNat)
  case atStart => exact ⟨0, none, 0, Nat.zero_le _, rfl, rfl, Own.nil _ _ _, Below.refl _ _⟩
  case round =>
    obtain ⟨k, O, d, hk, rfl, rfl, own, hB⟩ := hrel
    by_cases hlt : k < T
    · have HR : Hid ((List.replicate k (-1 : Int)).length = k) := by simp [Hid]
      have hBs := hB.size
      go_wp2_with (at_builtin; refine wpList_append_sl _ rfl _ _ rfl elI eI_ok (own.alloc _) (n := k) HR.out rfl (m := 1) rfl (ys := [-1]) rfl (Sl.new eI_ok wr _ _ rfl _) (by simp only [maxLen]; omega) (by omega) (by simp; omega) _ rfl (k + 1) rfl ?_; intro A1 e1 w1 own1 hg1 at1)
      go_roundw
      case rel => exact ⟨k + 1, A1, e1, by omega, by go_num, rfl, by rw [List.replicate_succ']; exact own1, (hB.alloc hB.size _).grown hg1 (by simp; omega) (fun q hq => (own.lt q hq).1)⟩
      case measure => simp [intOf]; omega
    · obtain rfl : k = T := by omega
      go_wp2_with (go_at_call 28; refine (byDead_any _ _ _ _ (hs.keep hB) (by omega)).mono ?_; rintro e w2 ⟨OR, dr, rfl, ownR, hb⟩)
      have hbl := by_len js js.length
      have hbd := by_bd js js.length
      rw [hbl]
      generalize byDeadTo js js.length = ord at *
      have HBL := Lib.hid hbl
      have HBD := Lib.hid hbd
      clear hbl hbd
      have own2 := own.keep hb
      have hne : blk OR = none ∨ blk OR ≠ blk O := by
        cases h1 : blk OR with
        | none => exact .inl rfl
        | some q =>
          right
          intro h2
          have a1 := (ownR.lt q h1).1
          have a2 := (own.lt q h2.symm).2
          omega
      have ownR2 : Own eI 1 w2 w.heap.size 3 OR dr ord := ownR.from_ hB.size
      have hB2 := bstep hB (Nat.le_refl _) hb
      clear own hB ownR hb
      go_loopw [8] (fun i wr => ∃ m : Nat, m ≤ js.length ∧ i = .int .i64 m ∧ Own eI 1 wr w.heap.size 3 O d (fillAll js k ord m) ∧ Own eI 1 wr w.heap.size 3 OR dr ord ∧ Below w.heap.size w wr) (fun i _ => js.length - (intOf i).toNat)
      case atStart => exact ⟨0, Nat.zero_le _, rfl, own2, ownR2, hB2⟩
      case round =>
        clear own2 ownR2 hB2
        obtain ⟨m, hm, rfl, own, ownR, hB⟩ := hrel
        obtain ⟨wo, rfl⟩ : ∃ wo : World, wo = wr := ⟨_, rfl⟩
        by_cases hml : m < js.length
        · have hol : m < ord.length := by rw [HBL.out]; exact hml
          obtain ⟨br, orr, rfl, cR⟩ := (ownR.sl eI_ok).int_at hol
          have hx := HBD.out ord[m] (List.getElem_mem hol)
          obtain ⟨X, hX⟩ := Int.eq_ofNat_of_zero_le hx.1
          have HX : Hid (ord.getD m 0 = (X : Int)) := by unfold Hid; rw [List.getD_eq_getElem?_getD, List.getElem?_eq_getElem hol, Option.getD_some, hX]
          rw [hX] at cR hx
          have hXl : X < js.length := by omega
          obtain ⟨b, off, rfl, c0, c1, c2⟩ := (hs.keep hB).job_at hXl
          have hj := okJ_t (hok js[X] (List.getElem_mem hXl))
          have X0 : (0 : Int) ≤ (X : Int) := by omega
          have X1 : (X : Int) < (js.length : Int) := by omega
          have HF : Hid (fillAll js k ord (m + 1) = fillFrom k X (k - js[X].come.toNat) (fillAll js k ord m) js[X].come.toNat js[X].cost) := by
            unfold Hid; rw [fillAll, HX.out]; unfold fillJob; simp [hXl]
          have HFL := Lib.hid (fillAll_len js k ord m)
          generalize fillAll js k ord m = out0 at *
          obtain ⟨C, hC⟩ := Int.eq_ofNat_of_zero_le hj.1
          have HC : Hid (js[X].come.toNat = C) := by unfold Hid; rw [hC]; rfl
          rw [hC] at c0 hj
          clear hX hC
          generalize hcost : js[X].cost = cost at *
          generalize hdead : js[X].dead = dead at *
          clear hcost hdead
          go_wp2
          go_loopw [10, 11] (fun l n wi => ∃ (N : Nat) (L : Int) (o : List Int), n = .int .i64 N ∧ l = .int .i64 L ∧ C ≤ N ∧ N ≤ 4096 ∧ 0 ≤ L ∧ L ≤ 1024 ∧ Hid (fillFrom k X (k - C) out0 C cost = fillFrom k X (k - N) o N L) ∧ Hid (o.length = k) ∧ Own eI 1 wi w.heap.size 3 O d o ∧ Own eI 1 wi w.heap.size 3 (some ⟨br, orr, none⟩) dr ord ∧ Below w.heap.size w wi) (fun _ n _ => k - (intOf n).toNat)
          case atStart => exact ⟨C, cost, out0, rfl, rfl, Nat.le_refl _, by omega, by omega, by omega, rfl, HFL.out, own.alloc _, ownR.alloc _, hB.alloc hB.size _⟩
          case round =>
            clear own ownR hB cR c0 c1 c2
            obtain ⟨N, L, o, rfl, rfl, n0, n1, l0, l1, HY, HOL, own, ownR, hB⟩ := hrel
            by_cases hN : N < k
            · by_cases hL : 0 < L
              · have hNl : N < o.length := by rw [HOL.out]; exact hN
                rcases own.shape with ⟨rfl, h2, rfl⟩ | ⟨g, rfl⟩
                · rw [h2] at hNl; simp at hNl
                · have cO := own_at own hNl
                  have fO := own_frozen own N
                  have cR : wr.cell? ⟨br, orr + m, none⟩ = some (.int .i64 X) := by
                    obtain ⟨b', o', hA', h3⟩ := (ownR.sl eI_ok).int_at hol
                    injection hA' with hA'
                    injection hA' with e1 e2
                    subst e1 e2
                    rw [h3]
                    have := HX.out
                    rw [List.getD_eq_getElem?_getD, List.getElem?_eq_getElem hol, Option.getD_some] at this
                    rw [this]
                  have m1 : m < js.length := hml
                  have HG : Hid (o.getD N 0 = o[N]) := by unfold Hid; rw [List.getD_eq_getElem?_getD, List.getElem?_eq_getElem hNl, Option.getD_some]
                  have HKN : Hid (k - N = (k - (N + 1)) + 1) := by unfold Hid; omega
                  have hgb := (own.lt g rfl).1
                  by_cases hneg : o[N] < 0
                  · obtain ⟨ownS, hgS⟩ := own_set own N X
                    have ownRS := ownR.kept hgS hne
                    go_wp2
                    go_roundw
                    case rel => exact ⟨N + 1, L - 1, o.set N X, by go_num, rfl, by omega, by omega, by omega, by omega, by unfold Hid; rw [HY.out, HKN.out]; conv => lhs; unfold fillFrom; rw [if_pos hL, HG.out, if_pos hneg], by unfold Hid; rw [List.length_set]; exact HOL.out, ownS, ownRS, hB.setCell hgb _⟩
                    case measure => simp [intOf]; omega
                  · go_wp2
                    go_roundw
                    case rel => exact ⟨N + 1, L, o, by go_num, rfl, by omega, by omega, by omega, by omega, by unfold Hid; rw [HY.out, HKN.out]; conv => lhs; unfold fillFrom; rw [if_pos hL, HG.out, if_neg hneg], HOL, own, ownR, hB⟩
                    case measure => simp [intOf]; omega
              · have HE : Hid (fillFrom k X (k - C) out0 C cost = o) := by
                  unfold Hid; rw [HY.out, show k - N = (k - (N + 1)) + 1 by omega]; unfold fillFrom; rw [if_neg hL]
                go_wp2
                go_roundw
                case rel => exact ⟨m + 1, by omega, by go_num, by rw [HF.out, HC.out, HE.out]; exact own, ownR, hB⟩
                case measure => simp [intOf]; omega
            · have HE : Hid (fillFrom k X (k - C) out0 C cost = o) := by
                unfold Hid; rw [HY.out, show k - N = 0 by omega]; rfl
              go_wp2
              go_roundw
              case rel => exact ⟨m + 1, by omega, by go_num, by rw [HF.out, HC.out, HE.out]; exact own, ownR, hB⟩
              case measure => simp [intOf]; omega
        · obtain rfl : m = js.length := by omega
          go_wp2
          go_ret
          exact ⟨O, d, by rw [fillAll_len]; rfl, own, hB⟩
end Go.Proofs.Ytkhbnklaglnfdaa.Edf
