/- Walk: are rows the document's? -/
import Derived.Test.YtciijdajdmcllaaU4
import Derived.Test.YtciijdajdmcllaaAft
namespace Go.Proofs.Ytciijdajdmcllaa
open Go.RowKit Go.Lib

theorem neq_up (o : Up) (w : World) : (binOp .neq 38 (.agg #[.int .i64 o.kind, .int .i64 o.a, .int .u64 o.b]) (.agg #[.int .i64 o.kind, .int .i64 o.a, .int .u64 o.b])).run Try.prog w = .ok (.bool false) w := by
  have h1 : (o.kind == o.kind) = true := by simp
  have h2 : (o.a == o.a) = true := by simp
  have h3 : (o.b == o.b) = true := by simp
  go_simp
set_option maxRecDepth 100000 in
set_option maxHeartbeats 4000000 in
theorem same_yes (g : Nat) (A : Option Addr) (c : Nat) (R : List RwS) (w : World) (hr : Rs w g (R.map ctOf)) (hQ : Qs w A c R) (hf : ∀ r ∈ R, r.L.length ≤ 8) :
    Calls Try.prog 13 #[.pointer (some ⟨g, 0, none⟩), .slice A 8 c] w fun e w' => e = .returned (.bool true) ∧ Below w.heap.size w w' := by
  have hlen := hQ.len
  have HO : Hid (∀ (W : World) (k : Nat), Below w.heap.size w W → (hk : k < 8) → Calls Try.prog 14 #[.pointer (some ⟨g, 0, none⟩), .int .i64 k] W (RetOf (R[k]'(by omega)).L (R[k]'(by omega)).lost W)) := fun W k hW hk => by
    have h := ofs_rs g k hk (R.map ctOf) W (hr.keep hW) (by simp; omega) (by rw [List.getElem_map]; exact hf _ (List.getElem_mem (by omega)))
    rw [List.getElem_map] at h
    exact h
  have HQ := Lib.hid hQ
  have HF := Lib.hid hf
  obtain ⟨q, rfl, hx1, hx2⟩ := hQ.at_ (i := 0) (by omega)
  have HAT : Hid (∀ (W : World) (k : Nat), Below w.heap.size w W → (hk : k < 8) → W.cell? ⟨q, k * 2, none⟩ = some (.slice (R[k]'(by omega)).A (R[k]'(by omega)).L.length (R[k]'(by omega)).c) ∧ W.cell? ⟨q, k * 2 + 1, none⟩ = some (.int .i64 (R[k]'(by omega)).lost)) := fun W k hW hk => by
    obtain ⟨q', e, c0, c1⟩ := (HQ.out.keep hW).at_ (i := k) (by omega)
    injection e with e
    injection e with e
    subst e
    exact ⟨c0, c1⟩
  have HSL : Hid (∀ (W : World) (k : Nat), Below w.heap.size w W → (hk : k < 8) → Sl eP 3 W (R[k]'(by omega)).A (R[k]'(by omega)).L) := fun W k hW hk => (HQ.out.keep hW).sl _ (List.getElem_mem (by omega))
  clear hr hQ hf hx1 hx2
  go_enter Try.func13, Try.ntmps13
  go_wp2_with fail
  go_loopw [5, 6, 7, 8] (fun s5 _ _ _ wr => ∃ k : Nat, k ≤ 8 ∧ s5 = .int .i64 k ∧ Below w.heap.size w wr) (fun i _ _ _ _ => 8 - (intOf i).toNat)
  case atStart => exact ⟨0, by omega, rfl, Below.refl _ _⟩
  case round =>
    obtain ⟨k, hk, rfl, hB⟩ := hrel
    by_cases hk8 : k < 8
    · have k0 : (0 : Int) ≤ (k : Int) := by omega
      have k1 : (k : Int) < 8 := by omega
      have HOK := Lib.hid (HO.out wr k hB hk8)
      have HATK := Lib.hid (fun W hW => HAT.out W k hW hk8)
      have HSLK := Lib.hid (fun W hW => HSL.out W k hW hk8)
      have hl8 := HF.out _ (List.getElem_mem (show k < R.length by omega))
      clear HO HAT HSL HF HQ
      generalize R[k] = r at *
      go_wp2_with fail
      refine HOK.out.mono ?_
      rintro e w2 ⟨O, d, rfl, hs2, hb2⟩
      replace hB := bstep hB (Nat.le_refl _) hb2
      have c0 := (HATK.out _ hB).1
      have c1 := (HATK.out _ hB).2
      have hl1 : ((r.L.length : Int) != (r.L.length : Int)) = false := by simp
      have hl2 : (r.lost != r.lost) = false := by simp
      clear hb2
      go_wp2_with fail
      have HB := Lib.hid hB
      have HS2 := Lib.hid hs2
      clear c0 c1 hB hs2 HOK hl1 hl2
      go_loopw [8] (fun s8 wi => ∃ m : Nat, m ≤ r.L.length ∧ s8 = .int .i64 m ∧ Below w2.heap.size w2 wi) (fun i _ => r.L.length - (intOf i).toNat)
      case atStart => exact ⟨0, Nat.zero_le _, rfl, Below.refl _ _⟩
      case round =>
        obtain ⟨m, hm, rfl, hBi⟩ := hrel
        have hBw := bstep HB.out (Nat.le_refl _) hBi
        by_cases hlt : m < r.L.length
        · have m0 : (0 : Int) ≤ (m : Int) := by omega
          have m1 : (m : Int) < (r.L.length : Int) := by omega
          obtain ⟨b1, f1, rfl, x0, x1, x2⟩ := Sl.up_at (HS2.out.keep hBi) hlt
          obtain ⟨b3, f3, e3, y0, y1, y2⟩ := Sl.up_at (HSLK.out _ hBw) hlt
          have c0 := (HATK.out _ hBw).1
          rw [e3] at c0
          have hq := neq_up (r.L[m])
          have HT := Lib.hid (fun W => to_any (r.L[m]) W)
          clear e3
          generalize r.L[m] = o at *
          go_wp2_with fail
          (have aft_c0 := Aft.cell c0; have aft_x0 := Aft.cell x0; have aft_x1 := Aft.cell x1; have aft_x2 := Aft.cell x2; have aft_y0 := Aft.cell y0; have aft_y1 := Aft.cell y1; have aft_y2 := Aft.cell y2; refine wp_region_aft (by kernel_rfl) (by kernel_rfl) ?_; (repeat (go_big_quiet_step ((first | (go_at_call 7; with_reducible exact aft_call (HT.out _)))))); refine wpQuiet_nil ?_; clear aft_c0 aft_x0 aft_x1 aft_x2 aft_y0 aft_y1 aft_y2; intro w5 hw2_; have hb5 := Aft.below hw2_; clear hw2_)
          clear c0 x0 x1 x2 y0 y1 y2
          go_wp2_with fail
          go_roundw
          case rel => exact ⟨m + 1, by omega, by go_num, bstep hBi (Nat.le_refl _) hb5⟩
          case measure => simp [intOf]; omega
        · obtain rfl : m = r.L.length := by omega
          go_wp2_with fail
          go_roundw
          case rel => exact ⟨k + 1, by omega, by go_num, hBw⟩
          case measure => simp [intOf]; omega
    · obtain rfl : k = 8 := by omega
      go_wp2_with fail
      go_ret
      exact ⟨rfl, hB⟩
end Go.Proofs.Ytciijdajdmcllaa
