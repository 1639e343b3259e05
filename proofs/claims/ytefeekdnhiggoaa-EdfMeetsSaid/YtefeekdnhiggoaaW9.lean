/- Walks: the program's Over. -/
import Derived.Test.YtefeekdnhiggoaaW8
import Derived.Test.YtefeekdnhiggoaaM3
import Derived.Test.YtefeekdnhiggoaaBlk
namespace Go.Proofs.Ytefeekdnhiggoaa
open Go.RowKit

def arrC (f : Nat → Int) : Array Value := Array.ofFn (n := 1025) fun i => .int .i64 (f i)
theorem arrC_at (f : Nat → Int) (i : Nat) (h : i < 1025) : (arrC f)[i]? = some (.int .i64 (f i)) := by simp [arrC, h]
theorem arrC_zero : Array.replicate 1025 (Value.int .i64 0) = arrC (fun _ => 0) := by
  apply Array.ext
  · simp [arrC]
  · intro i h1 h2
    simp [arrC]
theorem arrC_set (f : Nat → Int) (i : Nat) (x : Int) : (arrC f).setIfInBounds i (.int .i64 x) = arrC (fun d => if d = i then x else f d) := by
  apply Array.ext
  · simp [arrC]
  · intro j h1 h2
    rw [Array.getElem_setIfInBounds (by simpa [arrC] using h1)]
    by_cases h : i = j
    · subst h; simp [arrC]
    · rw [if_neg h]; simp [arrC]; intro e; exact absurd e.symm h
theorem zero_arr (w : World) : (zeroValue 47).run Try.prog w = .ok (.agg (Array.replicate 1025 (.int .i64 0))) w := by kernel_rfl

set_option maxRecDepth 100000 in
set_option maxHeartbeats 4000000 in
theorem over_any (A : Option Addr) (js : List Job) (c : Nat) (T : Nat) (w : World) (hs : Sl eJ 3 w A js) (hr : rightJ js = true) (hl : js.length ≤ 32) (hT : endJ js = (T : Int)) (hT2 : T ≤ 1024) (hok : ∀ j ∈ js, okJ j = true) :
    Calls Try.prog 19 #[.slice A js.length c] w fun e w' => (∃ a b ok, e = .returned (.tuple #[.int .i64 a, .int .i64 b, .bool ok]) ∧ FirstOver js T a b ok) ∧ Below w.heap.size w w' := by
  have zz := zero_arr
  go_enter Try.func19, Try.ntmps19
  go_wp2_with (first | (go_at_call 10; refine (right_any _ _ _ _ hs (by omega)).mono ?_; rintro e w2 ⟨rfl, hB⟩; rw [hr]) | (go_at_call 12; refine (end_any _ _ _ _ (hs.keep hB) (by omega)).mono ?_; rintro e w3 ⟨rfl, hb⟩; replace hB := bstep hB (Nat.le_refl _) hb; clear hb; rw [hT]))
  go_loopw [18] (fun i wr => ∃ k : Nat, k ≤ T ∧ i = .int .i64 k ∧ Hid (∀ f' t' : Nat, f' < k → f' < t' → t' ≤ T → ¬ overP js f' t') ∧ Below w.heap.size w wr) (fun i _ => T - (intOf i).toNat)
  case atStart => exact ⟨0, Nat.zero_le _, rfl, fun f' t' h => by omega, hB⟩
  case round =>
    clear hB
    obtain ⟨k, hk, rfl, HF, hB⟩ := hrel
    by_cases hlt : k < T
    · go_wp2
      rw [arrC_zero]
      have hbl : Blk (wr.alloc (.cells (arrC fun _ => 0) 47)) wr.heap.size 47 (arrC fun d => costTo js k d 0) := Blk.new _ _ _
      have hgb : w.heap.size ≤ wr.heap.size := hB.size
      replace hB := hB.alloc hB.size (.cells (arrC fun _ => 0) 47)
      generalize wr.alloc (.cells (arrC fun _ => 0) 47) = w5 at *
      generalize wr.heap.size = gc at *
      go_loopw [23] (fun i wi => ∃ m : Nat, m ≤ js.length ∧ i = .int .i64 m ∧ Blk wi gc 47 (arrC fun d => costTo js k d m) ∧ Below w.heap.size w wi) (fun i _ => js.length - (intOf i).toNat)
      case atStart => exact ⟨0, Nat.zero_le _, rfl, hbl, hB⟩
      case round =>
        clear hB hbl
        obtain ⟨m, hm, rfl, hbl, hB⟩ := hrel
        by_cases hmlt : m < js.length
        · obtain ⟨b, off, rfl, c0, c1, c2⟩ := (hs.keep hB).job_at hmlt
          have hj := okJ_t (hok js[m] (List.getElem_mem hmlt))
          obtain ⟨D, hD⟩ := Int.eq_ofNat_of_zero_le (show 0 ≤ js[m].dead by omega)
          obtain ⟨j0, j1, j2, j3, j4⟩ := hj
          rw [hD] at c1 j1 j2
          have HD := Lib.hid hD
          clear hD
          have hcb := cost_bd js hok k D m hm
          have HC := Lib.hid (cost_succ js k · m hmlt)
          go_upto_region 11 with (fail)
          have hD1 : D < 1025 := by omega
          have d0 : (wr.alloc (Obj.cells #[.int .i64 js[m].come, .int .i64 D, .int .i64 js[m].cost] 44)).cell? ⟨wr.heap.size, 0, none⟩ = some (.int .i64 js[m].come) := by simp
          have d1 : (wr.alloc (Obj.cells #[.int .i64 js[m].come, .int .i64 D, .int .i64 js[m].cost] 44)).cell? ⟨wr.heap.size, 1, none⟩ = some (.int .i64 D) := by simp
          have d2 : (wr.alloc (Obj.cells #[.int .i64 js[m].come, .int .i64 D, .int .i64 js[m].cost] 44)).cell? ⟨wr.heap.size, 2, none⟩ = some (.int .i64 js[m].cost) := by simp
          have hgl : gc < wr.heap.size := hbl.lt
          replace hbl := hbl.alloc (Obj.cells #[.int .i64 js[m].come, .int .i64 D, .int .i64 js[m].cost] 44)
          replace hB := hB.alloc hB.size (Obj.cells #[.int .i64 js[m].come, .int .i64 D, .int .i64 js[m].cost] 44)
          clear c0 c1 c2
          generalize wr.alloc (Obj.cells #[.int .i64 js[m].come, .int .i64 D, .int .i64 js[m].cost] 44) = w6 at *
          generalize wr.heap.size = gj at *
          have x0 := hbl.cell D _ (arrC_at _ D hD1)
          have xf := Blk.frozen hbl D
          have D0 : (0 : Int) ≤ (D : Int) := by omega
          have D1 : (D : Int) < 1025 := by omega
          by_cases hcome : (k : Int) ≤ js[m].come
          · have HN : Hid ((fun d : Nat => if d = D then costTo js k D m + js[m].cost else costTo js k d m) = fun d : Nat => costTo js k d (m + 1)) := by
              funext d
              by_cases he : d = D
              · subst he; rw [if_pos rfl, HC.out, if_pos ⟨hcome, HD.out⟩]
              · rw [if_neg he, HC.out, if_neg (fun h => he (by have := HD.out; omega))]; omega
            obtain ⟨hc0, hc1⟩ := hcb
            have hbl2 := hbl.set_ D (.int .i64 (costTo js k D m + js[m].cost))
            rw [arrC_set, HN.out] at hbl2
            have hB2 : Below w.heap.size w (w6.setCell ⟨gc, D, none⟩ (.int .i64 (costTo js k D m + js[m].cost))) := hB.setCell hgb _
            have hw : IntKind.i64.wrap (costTo js k D m + js[m].cost) = costTo js k D m + js[m].cost := IntWalk.i64_in _ (by omega)
            generalize costTo js k D m = C at *
            go_wp2
            go_region
            go_wp2
            go_roundw
            case rel => exact ⟨m + 1, by omega, by go_num, hbl2, hB2.drew⟩
            case measure => simp [intOf]; omega
          · have HN : Hid ((fun d : Nat => costTo js k d m) = fun d : Nat => costTo js k d (m + 1)) := by
              funext d
              rw [HC.out, if_neg (fun h => hcome h.1)]; omega
            go_wp2
            go_roundw
            case rel => exact ⟨m + 1, by omega, by go_num, by rw [← HN.out]; exact hbl, hB⟩
            case measure => simp [intOf]; omega
        · obtain rfl : m = js.length := by omega
          go_wp2
          go_loopw [10, 11] (fun ld i wi => ∃ (t : Nat) (y : Int), k < t ∧ t ≤ T + 1 ∧ i = .int .i64 t ∧ ld = .int .i64 y ∧ Hid (y = loadTo js k ((t : Int) - 1) js.length) ∧ 0 ≤ y ∧ y ≤ 32768 ∧ Hid (∀ t' : Nat, k < t' → t' < t → ¬ overP js k t') ∧ Blk wi gc 47 (arrC fun d => costTo js k d js.length) ∧ Below w.heap.size w wi) (fun _ i _ => T + 1 - (intOf i).toNat)
          case atStart => exact ⟨k + 1, 0, by omega, by omega, by go_num, rfl, by unfold Hid; rw [show ((k + 1 : Nat) : Int) - 1 = k by omega, load_none js hok k _ (Nat.le_refl _)], by omega, by omega, fun t' h1 h2 => by omega, hbl, hB⟩
          case round =>
            clear hB hbl
            obtain ⟨t, y, hkt, htT, rfl, rfl, HY, y0, y1, HT, hbl, hB⟩ := hrel
            by_cases htl : t ≤ T
            · have ht5 : t < 1025 := by omega
              have x0 := hbl.cell t _ (arrC_at _ t ht5)
              have HST := Lib.hid (load_step js k ((t : Int) - 1) js.length (Nat.le_refl _))
              have HLB := load_bd js hok k t js.length (Nat.le_refl _)
              have hcb := cost_bd js hok k t js.length (Nat.le_refl _)
              have HE : Hid (y + costTo js k t js.length = loadTo js k t js.length) := by
                have h := HST.out
                rw [show (t : Int) - 1 + 1 = t by omega] at h
                unfold Hid
                rw [h, HY.out]
              have HO : Hid (overP js k t ↔ (t : Int) - k < loadTo js k t js.length) := Iff.rfl
              have hye : 0 ≤ y + costTo js k t js.length ∧ y + costTo js k t js.length ≤ 32768 := by rw [HE.out]; omega
              have HL : Hid (loadTo js k t js.length = y + costTo js k t js.length) := HE.out.symm
              clear HLB
              generalize costTo js k t js.length = C at *
              obtain ⟨hc0, hc1⟩ := hcb
              obtain ⟨e0, e1⟩ := hye
              have t0 : (0 : Int) ≤ (t : Int) := by omega
              have t1 : (t : Int) < 1025 := by omega
              by_cases hov : (t : Int) - k < y + C
              · have HV : Hid (overP js k t) := HO.out.2 (by rw [HL.out]; exact hov)
                go_wp2
                go_ret3
                exact ⟨⟨k, t, true, rfl, .inr ⟨rfl, k, t, rfl, rfl, hkt, htl, HV.out, HF.out, HT.out⟩⟩, hB⟩
              · have HT2 : Hid (∀ t' : Nat, k < t' → t' < t + 1 → ¬ overP js k t') := fun t' h1 h2 => by
                  by_cases he : t' = t
                  · subst he; intro h; have := HO.out.1 h; rw [HL.out] at this; exact hov this
                  · exact HT.out t' h1 (by omega)
                go_wp2
                go_roundw
                case rel => exact ⟨t + 1, y + C, by omega, by omega, by go_num, by go_num, by unfold Hid; rw [show ((t + 1 : Nat) : Int) - 1 = t by omega]; exact HL.out.symm, e0, e1, HT2.out, hbl, hB⟩
                case measure => simp [intOf]; omega
            · obtain rfl : t = T + 1 := by omega
              have HF2 : Hid (∀ f' t' : Nat, f' < k + 1 → f' < t' → t' ≤ T → ¬ overP js f' t') := fun f' t' h1 h2 h3 => by
                by_cases he : f' = k
                · subst he; exact HT.out t' h2 (by omega)
                · exact HF.out f' t' (by omega) h2 h3
              go_wp2
              go_roundw
              case rel => exact ⟨k + 1, by omega, by go_num, HF2.out, hB⟩
              case measure => simp [intOf]; omega
    · obtain rfl : k = T := by omega
      go_wp2
      go_ret3
      exact ⟨⟨0, 0, false, rfl, .inl ⟨rfl, rfl, rfl, fun f t h1 h2 => HF.out f t (by omega) h1 h2⟩⟩, hB⟩
end Go.Proofs.Ytefeekdnhiggoaa
