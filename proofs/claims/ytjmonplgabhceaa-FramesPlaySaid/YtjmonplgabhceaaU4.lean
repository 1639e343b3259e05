/- The document's frames: Give, Write, New. -/
import Derived.Test.YtjmonplgabhceaaU3
import Derived.Test.YtjmonplgabhceaaWide
namespace Go.Proofs.Ytjmonplgabhceaa
open Go.RowKit Go.Lib

def giveD (R : List FrE) (i : Int) : List FrE := if isD R i then R.modify i.toNat (fun x => { x with T := false }) else R
def giveE (R : List FrE) (i : Int) : Int := if isD R i then 0 else 6
theorem giveD_len (R : List FrE) (i : Int) : (giveD R i).length = R.length := by unfold giveD; split <;> simp
theorem modify_set (R : List FrE) (k : Nat) (hk : k < R.length) (f : FrE → FrE) : R.modify k f = R.set k (f R[k]) := by
  apply List.ext_getElem?
  intro j
  rw [List.getElem?_modify, List.getElem?_set]
  by_cases h : k = j
  · subst h; simp [hk]
  · simp [h]
theorem isD_in {R : List FrE} {i : Int} (h : isD R i = true) : ∃ k : Nat, i = k ∧ k < R.length := by
  by_cases h2 : 0 ≤ i ∧ i < R.length
  · exact ⟨i.toNat, by omega, by omega⟩
  · rw [isD_no h2] at h; cases h
theorem eF_size (x : FrE) : (Try.prog.info? 55).map (·.size) = some (eF x).length := by
  have h : (Try.prog.info? 55).map (·.size) = some 17 := by kernel_rfl
  exact h
theorem eF_one (x : FrE) : ∀ v ∈ eF x, v.oneCell' = true := fun v hv => eF_ok.one x v hv
set_option maxRecDepth 100000 in
set_option maxHeartbeats 4000000 in
theorem rgive_any (q c : Nat) (R : List FrE) (i : Int) (w : World) (hD : Dm w (some ⟨q, 0, none⟩) c R) : Calls Try.prog 8 #[.slice (some ⟨q, 0, none⟩) R.length c, .int .i64 i] w (RetDT q c (giveD R i) [.int .i64 (giveE R i)] w) := by
  have hl := hD.len.2
  have HI := Lib.hid (is_any q c R i w hD)
  have HD := Lib.hid hD
  clear hD
  cases hb : isD R i
  · rw [hb] at HI
    have H1 : Hid (giveD R i = R ∧ giveE R i = 6) := by unfold Hid giveD giveE; rw [hb]; simp
    clear hb
    go_enter Try.func8, Try.ntmps8
    go_wp2_with fail
    refine HI.out.mono ?_
    rintro e w2 ⟨rfl, rfl⟩
    go_wp2_with fail
    go_ret2
    exact ⟨q, c, by rw [H1.out.1, H1.out.2]; rfl, by rw [H1.out.1]; exact HD.out, .inl rfl, Below.refl _ _⟩
  · obtain ⟨k, rfl, hk⟩ := isD_in hb
    rw [hb] at HI
    have H1 : Hid (giveD R k = R.set k ⟨false, R[k].B⟩ ∧ giveE R k = 0) := by unfold Hid giveD giveE; rw [hb, if_pos rfl, if_pos rfl, Int.toNat_natCast, modify_set R k hk]; exact ⟨rfl, rfl⟩
    have HR := Lib.hid (show w.rangeAt q (k * 17) (eF R[k]) from fun j v hj => HD.out.cell hk hj)
    have HS : Hid ((eF R[k])[0]? = some (.bool R[k].T) ∧ (eF R[k]).set 0 (.bool false) = eF ⟨false, R[k].B⟩) := ⟨rfl, rfl⟩
    have HL := Lib.hid (eF_size R[k])
    have HO := Lib.hid (eF_one R[k])
    have HN : Hid ((eF R[k]).length = 17) := rfl
    have HW : Hid (∀ w2, Below w.heap.size w w2 → Calls Try.prog 18 #[.slice (some ⟨q, 0, none⟩) R.length c, .int .i64 k, .agg (eF ⟨false, R[k].B⟩).toArray] w2 (RetD (R.set k ⟨false, R[k].B⟩) w2)) := fun w2 hb2 => with_any _ c R k ⟨false, R[k].B⟩ w2 (HD.out.keep hb2) hk
    have k1 : (k : Int) < (R.length : Int) := by omega
    have k0 : (0 : Int) ≤ (k : Int) := by omega
    have HM := Lib.hid (eF_size ⟨false, R[k].B⟩)
    generalize eF ⟨false, R[k].B⟩ = M at *
    generalize eF R[k] = L at *
    generalize R[k].T = t at *
    generalize R[k].B = B at *
    clear hb
    go_enter Try.func8, Try.ntmps8
    go_wp2_with fail
    refine HI.out.mono ?_
    rintro e w2 ⟨rfl, rfl⟩
    have HZ : Hid (∀ w3, Blk w3 w.heap.size 55 L.toArray → w3.cell? ⟨w.heap.size, 0, none⟩ = some (.bool t) ∧ w3.frozen? ⟨w.heap.size, 0, none⟩ = false ∧ (w3.setCell ⟨w.heap.size, 0, none⟩ (.bool false)).rangeAt w.heap.size 0 M) := fun w3 b3 => by
      refine ⟨b3.cell 0 _ ((List.getElem?_toArray ..).trans HS.out.1), b3.frozen 0, ?_⟩
      have h4 := b3.set_ 0 (.bool false)
      rw [List.setIfInBounds_toArray, HS.out.2] at h4
      exact h4.range
    go_wp2_with (first | (refine wpList_load_mid rfl 55 _ rfl q (k * 17) rfl L _ HR.out Try.underlying55 rfl HL.out ?_) | (refine wpList_store_box w 55 _ L rfl _ _ rfl rfl rfl (by rw [HN.out]; rfl) HL.out HO.out ?_; intro w3 b3 hb3 hz3; (have H3 := Lib.hid (And.intro b3 (And.intro hb3 hz3))); obtain ⟨c0, f0, _⟩ := HZ.out w3 b3; clear b3 hb3 hz3) | (refine wpList_load_mid rfl 55 _ rfl w.heap.size 0 rfl M _ (HZ.out _ H3.out.1).2.2 Try.underlying55 rfl HM.out ?_))
    have hb4 : Below w.heap.size w (w3.setCell ⟨w.heap.size, 0, none⟩ (.bool false)) := H3.out.2.1.setCell (Nat.le_refl _) _
    refine (HW.out _ hb4).mono ?_
    rintro e w5 ⟨q2, d, rfl, hD2, hq2, hb2⟩
    go_wp2_with fail
    go_ret2
    have hz4 := hb4.size
    exact ⟨q2, d, by rw [giveD_len, H1.out.2]; rfl, by rw [H1.out.1]; exact hD2, .inr (by omega), hb4.trans (hb2.mono hz4)⟩
def writeD (R : List FrE) (i a v : Int) : List FrE := if readE R i a = 0 then R.modify i.toNat (fun x => { x with B := fun m => if m = a.toNat then v else x.B m }) else R
theorem writeD_len (R : List FrE) (i a v : Int) : (writeD R i a v).length = R.length := by unfold writeD; split <;> simp
theorem eF_set (x : FrE) (v : Int) {j : Nat} (hj : j < 16) : (eF x).set (1 + j) (.int .u8 v) = eF { x with B := fun m => if m = j then v else x.B m } := by
  have : j = 0 ∨ j = 1 ∨ j = 2 ∨ j = 3 ∨ j = 4 ∨ j = 5 ∨ j = 6 ∨ j = 7 ∨ j = 8 ∨ j = 9 ∨ j = 10 ∨ j = 11 ∨ j = 12 ∨ j = 13 ∨ j = 14 ∨ j = 15 := by omega
  rcases this with rfl | rfl | rfl | rfl | rfl | rfl | rfl | rfl | rfl | rfl | rfl | rfl | rfl | rfl | rfl | rfl <;> rfl
theorem readE_0 {R : List FrE} {i a : Int} (h : readE R i a = 0) : ∃ k m : Nat, i = k ∧ a = m ∧ k < R.length ∧ m < 16 := by
  unfold readE at h
  split at h
  · rename_i hb
    obtain ⟨k, rfl, hk⟩ := isD_in hb
    split at h
    · rename_i h2
      exact ⟨k, a.toNat, rfl, by omega, hk, by omega⟩
    · cases h
  · cases h
set_option maxRecDepth 100000 in
set_option maxHeartbeats 4000000 in
theorem rwrite_any (q c : Nat) (R : List FrE) (i a v : Int) (w : World) (hD : Dm w (some ⟨q, 0, none⟩) c R) : Calls Try.prog 12 #[.slice (some ⟨q, 0, none⟩) R.length c, .int .i64 i, .int .i64 a, .int .u8 v] w (RetDT q c (writeD R i a v) [.int .i64 (readE R i a)] w) := by
  have hl := hD.len.2
  have HI := Lib.hid (rread_any q c R i a w hD)
  have HD := Lib.hid hD
  clear hD
  by_cases hb : readE R i a = 0
  · obtain ⟨k, m, rfl, rfl, hk, hm⟩ := readE_0 hb
    have H1 : Hid (writeD R k m v = R.set k ⟨R[k].T, fun j => if j = m then v else R[k].B j⟩) := by unfold Hid writeD; rw [if_pos hb, Int.toNat_natCast, Int.toNat_natCast, modify_set R k hk]
    rw [hb] at HI ⊢
    have HR := Lib.hid (show w.rangeAt q (k * 17) (eF R[k]) from fun j v hj => HD.out.cell hk hj)
    have HS : Hid ((eF R[k])[1 + m]? = some (.int .u8 (R[k].B m)) ∧ (eF R[k]).set (1 + m) (.int .u8 v) = eF ⟨R[k].T, fun j => if j = m then v else R[k].B j⟩) := ⟨eF_at R[k] hm, eF_set R[k] v hm⟩
    have HL := Lib.hid (eF_size R[k])
    have HO := Lib.hid (eF_one R[k])
    have HN : Hid ((eF R[k]).length = 17) := rfl
    have HW : Hid (∀ w2, Below w.heap.size w w2 → Calls Try.prog 18 #[.slice (some ⟨q, 0, none⟩) R.length c, .int .i64 k, .agg (eF ⟨R[k].T, fun j => if j = m then v else R[k].B j⟩).toArray] w2 (RetD (R.set k ⟨R[k].T, fun j => if j = m then v else R[k].B j⟩) w2)) := fun w2 hb2 => with_any _ c R k ⟨R[k].T, fun j => if j = m then v else R[k].B j⟩ w2 (HD.out.keep hb2) hk
    have k1 : (k : Int) < (R.length : Int) := by omega
    have k0 : (0 : Int) ≤ (k : Int) := by omega
    have m0 : (0 : Int) ≤ (m : Int) := by omega
    have m1 : (m : Int) < 16 := by omega
    have HM := Lib.hid (eF_size ⟨R[k].T, fun j => if j = m then v else R[k].B j⟩)
    generalize eF ⟨R[k].T, fun j => if j = m then v else R[k].B j⟩ = M at *
    generalize eF R[k] = L at *
    generalize (⟨R[k].T, fun j => if j = m then v else R[k].B j⟩ : FrE) = X at *
    generalize R[k].B m = b0 at *
    generalize readV R k m = u0 at *
    clear hb
    have HZ : Hid (∀ w3, Blk w3 w.heap.size 55 L.toArray → w3.cell? ⟨w.heap.size, 1 + m, none⟩ = some (.int .u8 b0) ∧ w3.frozen? ⟨w.heap.size, 1 + m, none⟩ = false ∧ (w3.setCell ⟨w.heap.size, 1 + m, none⟩ (.int .u8 v)).rangeAt w.heap.size 0 M) := fun w3 b3 => by
      refine ⟨b3.cell (1 + m) _ ((List.getElem?_toArray ..).trans HS.out.1), b3.frozen (1 + m), ?_⟩
      have h4 := b3.set_ (1 + m) (.int .u8 v)
      rw [List.setIfInBounds_toArray, HS.out.2] at h4
      exact h4.range
    go_enter Try.func12, Try.ntmps12
    go_wp2_with fail
    refine HI.out.mono ?_
    rintro e w2 ⟨rfl, rfl⟩
    go_wp2_with (first | (refine wpList_load_mid rfl 55 _ rfl q (k * 17) rfl L _ HR.out Try.underlying55 rfl HL.out ?_) | (refine wpList_store_box w 55 _ L rfl _ _ rfl rfl rfl (by rw [HN.out]; rfl) HL.out HO.out ?_; intro w3 b3 hb3 hz3; (have H3 := Lib.hid (And.intro b3 (And.intro hb3 hz3))); obtain ⟨c0, f0, _⟩ := HZ.out w3 b3; clear b3 hb3 hz3) | (refine wpList_load_mid rfl 55 _ rfl w.heap.size 0 rfl M _ (HZ.out _ H3.out.1).2.2 Try.underlying55 rfl HM.out ?_))
    have hb4 : Below w.heap.size w (w3.setCell ⟨w.heap.size, 1 + m, none⟩ (.int .u8 v)) := H3.out.2.1.setCell (Nat.le_refl _) _
    refine (HW.out _ hb4).mono ?_
    rintro e w5 ⟨q2, d, rfl, hD2, hq2, hb2⟩
    go_wp2_with fail
    go_ret2
    have hz4 := hb4.size
    exact ⟨q2, d, by rw [writeD_len]; simp, by rw [H1.out]; exact hD2, .inr (by omega), hb4.trans (hb2.mono hz4)⟩
  · have H1 : Hid (writeD R i a v = R) := by unfold Hid writeD; rw [if_neg hb]
    have hne : (readE R i a != 0) = true := by simp [hb]
    clear hb
    generalize readE R i a = x at *
    generalize readV R i a = y at *
    go_enter Try.func12, Try.ntmps12
    go_wp2_with fail
    refine HI.out.mono ?_
    rintro e w2 ⟨rfl, rfl⟩
    go_wp2_with fail
    go_ret2
    exact ⟨q, c, by rw [H1.out]; rfl, by rw [H1.out]; exact HD.out, .inl rfl, Below.refl _ _⟩
def newD (n : Nat) : List FrE := List.replicate n ⟨false, fun _ => 0⟩
theorem made_frames (n : Nat) : (madeCells (fV ⟨false, fun _ => 0⟩).cells (n * 17)).toList = (newD n).flatMap eF := by
  have h0 : ∀ m : Nat, m < 17 → (eF ⟨false, fun _ => 0⟩)[m]? = (fV ⟨false, fun _ => 0⟩).cells[m]? := fun m hm => by
    rw [← Array.getElem?_toList]
    rfl
  apply List.ext_getElem?
  intro j
  by_cases hj : j < n * 17
  · have hq : j / 17 < n := Nat.div_lt_of_lt_mul (by omega)
    have hr : j % 17 < 17 := Nat.mod_lt _ (by omega)
    have h1 := flat_at eF_len (newD n) (j / 17) ⟨false, fun _ => 0⟩ (j % 17) (by unfold newD; rw [List.getElem?_replicate, if_pos hq]) hr
    rw [show j / 17 * 17 + j % 17 = j by omega] at h1
    rw [h1, h0 _ hr]
    have hs : (fV ⟨false, fun _ => 0⟩).cells.size = 17 := rfl
    unfold madeCells
    simp only [hs]
    simp [hj]
    rw [getElem!_pos _ _ (by rw [hs]; exact hr), Array.getElem?_eq_getElem (by rw [hs]; exact hr)]
  · rw [List.getElem?_eq_none (by simp [madeCells]; omega), List.getElem?_eq_none (by rw [flat_len eF_len]; unfold newD; simp; omega)]
def RetND (n : Nat) (w : World) (e : Ending) (w' : World) : Prop := ∃ d : Nat, e = .returned (.slice (some ⟨w.heap.size, 0, none⟩) n d) ∧ Dm w' (some ⟨w.heap.size, 0, none⟩) d (newD n) ∧ Below w.heap.size w w'
set_option maxRecDepth 100000 in
set_option maxHeartbeats 2000000 in
theorem rnew_any (n : Nat) (h1 : 1 ≤ n) (h2 : n ≤ 32) (w : World) : Calls Try.prog 6 #[.int .i64 n] w (RetND n w) := by
  obtain ⟨j0, hj0, jz0, jz1, jz2⟩ := info_parts info_fr
  have HD : Hid (∀ w', w'.ownsRow 0 55 17 (.slice (some ⟨w.heap.size, 0, none⟩) n n) n (madeCells (fV ⟨false, fun _ => 0⟩).cells (n * 17)).toList → Dm w' (some ⟨w.heap.size, 0, none⟩) n (newD n)) := fun w' h => by
    have hl : (newD n).length = n := by unfold newD; simp
    refine ⟨by omega, ?_⟩
    rw [made_frames] at h
    unfold Own
    rw [hl]
    exact h
  have n0 : (0 : Int) ≤ (n : Int) := by omega
  have n1 : (n : Int) ≤ 32 := by omega
  go_enter Try.func6, Try.ntmps6
  go_wp2_with (at_make; refine wpList_make_full _ rfl _ _ 28 rfl 0 55 j0 _ 17 Try.underlying28 hj0 jz0 jz1 _ _ _ _ n rfl rfl rfl rfl (by rw [jz2]; omega) (by simp only [maxLen]; omega) (Nat.zero_le _) ?_; intro w3 ho3 hg3; (have H3 := Lib.hid (And.intro ho3 hg3)); clear ho3 hg3)
  go_ret
  refine ⟨n, rfl, HD.out _ H3.out.1, ?_⟩
  have hg := H3.out.2
  exact (Below.refl _ _).grown hg (Nat.le_refl _) (fun q hq => by cases hq)
end Go.Proofs.Ytjmonplgabhceaa
