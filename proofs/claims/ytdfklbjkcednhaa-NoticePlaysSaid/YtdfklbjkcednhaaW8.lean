/- Walks: slices.Delete, IndexFunc and Clone at notices; the place of a notice. -/
import Derived.Test.YtdfklbjkcednhaaW7
import Derived.Test.YtdfklbjkcednhaaDel
namespace Go.Proofs.Ytdfklbjkcednhaa
open Go.RowKit Go.Lib

theorem info_nt : (Try.prog.info? 39).map (fun i => (i.zero, i.size, i.bytes)) = some (some (.agg #[.int .i64 0, .int .i64 0, .int .i64 0]), 3, 24) := by kernel_rfl
theorem elNt : Elem Try.prog 25 39 3 24 := elem_mk Try.underlying25 info_nt rfl (by omega)

theorem zero_elem : ∀ w, (zeroValue 39).run Try.prog w = .ok (.agg #[.int .i64 0, .int .i64 0, .int .i64 0]) w := fun w => by kernel_rfl
theorem ret_slice {A : Option Addr} {n m c : Nat} (h : n = m) : Ending.returned (.slice A n c) = .returned (.slice A m c) := by rw [h]

set_option maxRecDepth 1000000 in
set_option maxHeartbeats 4000000 in
theorem del_any (g c i k base : Nat) (L : List Nt) (w : World) (own : Own eNt 3 w base 39 (some ⟨g, 0, none⟩) c L) (hn : L.length = i + 1 + k) (hl : L.length ≤ 1000) :
    Calls Try.prog 17 #[.slice (some ⟨g, 0, none⟩) L.length c, .int .i64 i, .int .i64 ((i : Int) + 1)] w fun e w' => e = .returned (.slice (some ⟨g, 0, none⟩) (L.eraseIdx i).length c) ∧ Own eNt 3 w' base 39 (some ⟨g, 0, none⟩) c (L.eraseIdx i) ∧ w.grownBy w' (some g) := by
  obtain ⟨i0, hi0, hz0, hz1, hz2⟩ := info_parts info_nt
  have hcl : (L.eraseIdx i).length = i + k := by rw [List.length_eraseIdx, if_pos (by omega)]; omega
  obtain ⟨_, _, _, hc1, hc2, _, _⟩ := own_block own
  simp only [maxLen] at hc2
  obtain ⟨news, hnews⟩ : ∃ news, news = (L.drop (i + 1)).flatMap eNt := ⟨_, rfl⟩
  have s1 : Hid (news.length = k * 3) := by unfold Hid; rw [hnews, flat_len eNt_ok.len, List.length_drop]; omega
  have s2 : Hid (∀ u ∈ news, u.oneCell' = true) := fun u hu => one_flat eNt_ok _ u (by rw [← hnews]; exact hu)
  have s3 : Hid (∀ t, t < news.length → (w.drew.cell? ⟨g, 0 + i * 3 + t, none⟩).isSome = true ∧ w.drew.frozen? ⟨g, 0 + i * 3 + t, none⟩ = false) := fun t ht => by
    rw [s1.out] at ht
    exact own_room own _ (by omega)
  have HS : Hid (∀ t u, news[t]? = some u → w.drew.cell? ((⟨g, (i + 1) * 3, none⟩ : Addr).add t) = some u) := fun t u hu => by
    have ht : t < k * 3 := by rw [← s1.out]; exact (List.getElem?_eq_some_iff.1 hu).1
    have hF := flat_drop eNt_ok.len L (i + 1)
    rw [hnews, hF, List.getElem?_drop] at hu
    rw [Addr.add_lit]
    obtain ⟨cur, _, h2, _, _, _, h6⟩ := own_block own
    show w.cell? _ = _
    rw [cell_of_row w g _ cur _ (0, 0) h2, ← hu, ← h6, List.getElem?_take, if_pos (by omega), Array.getElem?_toList]
  obtain ⟨W1, hW1⟩ : ∃ W1, W1 = w.drew.setCells g (0 + i * 3) news := ⟨_, rfl⟩
  have HW := Lib.hid hW1
  have HG := own_gone (w := w.drew) eNt_ok.len own.drew i k hn [.int .i64 0, .int .i64 0, .int .i64 0] rfl
  rw [← hnews, show i * 3 = 0 + i * 3 by omega, ← hW1] at HG
  have HG2 := Lib.hid HG
  have hroom : ∀ j, j < c * 3 → (W1.cell? ⟨g, j, none⟩).isSome = true ∧ W1.frozen? ⟨g, j, none⟩ = false := fun j hj => by
    rw [hW1]
    have := own_room own j hj
    exact ⟨Go.World.isSome_setCells g _ _ _ _ this.1, by rw [World.frozen?_setCells]; exact this.2⟩
  have HCL : ∀ ty n' c', n' = 1 → (Builtin.clear_ #[25] ty #[.slice (some ⟨g, (i + k) * 3, none⟩) n' c']).run Try.prog W1 = .ok (.tuple #[]) (W1.setCells g ((i + k) * 3) [.int .i64 0, .int .i64 0, .int .i64 0]) := fun ty n' c' hn' =>
    run_clear_one W1 _ 39 ty _ Try.underlying25 zero_elem [.int .i64 0, .int .i64 0, .int .i64 0] (by kernel_rfl) (by decide) g ((i + k) * 3) n' c' hn' (fun j hj => hroom _ (by simp at hj; omega))
  clear hW1 HG hroom hnews
  rw [hn]
  rw [hn] at hc1
  have hic : i ≤ c := by omega
  have hjc : i + 1 ≤ c := by omega
  have hi1 : (0 : Int) ≤ (i : Int) + 1 := by omega
  have hi2 : (i : Int) + 1 ≤ (i : Int) + 1 + (k : Int) := by omega
  by_cases hce : c = i + 1
  · obtain rfl : k = 0 := by omega
    obtain rfl : news = [] := List.eq_nil_of_length_eq_zero (by rw [s1.out])
    have HS2 : Hid (∀ t u, ([] : List Value)[t]? = some u → w.drew.cell? ((⟨g, 0, none⟩ : Addr).add t) = some u) := fun t u hu => by simp at hu
    subst hce
    have hcl2 := fun ty => HCL ty (i + 1 - i) (i + 1 - i) (by omega)
    simp only [Nat.add_zero] at hcl2 hcl ⊢
    have hi3 : (i : Int) ≤ (i : Int) + 1 := by omega
    have e1 : i + 1 - i = 1 := by omega
    rw [e1] at hcl2
    clear HCL
    go_enter Try.func17, Try.ntmps17
    go_wp2_with fail
    go_region_law (refine step_append_room rfl (.tmp 22) (.tmp 25) 25 rfl 39 i0 3 Try.underlying25 hi0 hz1 g 0 i (i + 1) (by simp [Act.eval, Act.put]) ⟨g, 0, none⟩ 0 0 [] (by simp [Act.eval, Act.put]) s1.out HS2.out s2.out (by omega) s3.out ?_; rw [← HW.out])
    go_wp2
    go_ret
    exact ⟨ret_slice (by omega), HG2.out.1, ⟨HG2.out.2.os, HG2.out.2.tape, HG2.out.2.output, HG2.out.2.size, HG2.out.2.block⟩⟩
  · have hcl2 := fun ty => HCL ty (i + 1 + k - (i + k)) (c - (i + k)) (by omega)
    clear HCL
    go_enter Try.func17, Try.ntmps17
    go_wp2_with fail
    go_region_law (refine step_append_room rfl (.tmp 22) (.tmp 25) 25 rfl 39 i0 3 Try.underlying25 hi0 hz1 g 0 i c (by simp [Act.eval, Act.put]) ⟨g, (i + 1) * 3, none⟩ k (c - (i + 1)) news (by simp [Act.eval, Act.put]) s1.out HS.out s2.out (by omega) s3.out ?_; rw [← HW.out])
    go_wp2
    go_ret
    exact ⟨ret_slice (by omega), HG2.out.1, ⟨HG2.out.2.os, HG2.out.2.tape, HG2.out.2.output, HG2.out.2.size, HG2.out.2.block⟩⟩

/-- is it the notice of a frame of an environment? -/
def hasN (a p : Int) (e : Nt) : Bool := (e.nEnv == a) && (e.nFrm == p)
def fiN (L : List Nt) (a p : Int) : Option Nat := L.findIdx? (hasN a p)
def plcN (L : List Nt) (a p : Int) : Int := match fiN L a p with | some i => i | none => -1
theorem Sl.nt_at {w : World} {A : Option Addr} {xs : List Nt} {i : Nat} (h : Sl eNt 3 w A xs) (hi : i < xs.length) :
    ∃ b off, A = some ⟨b, off, none⟩ ∧ w.cell? ⟨b, off + i * 3, none⟩ = some (.int .i64 xs[i].nEnv) ∧ w.cell? ⟨b, off + i * 3 + 1, none⟩ = some (.int .i64 xs[i].nFrm) ∧ w.cell? ⟨b, off + i * 3 + 1 + 1, none⟩ = some (.int .i64 xs[i].nTil) := by
  obtain ⟨b, off, hA, hc⟩ := h.at_ hi
  refine ⟨b, off, hA, ?_, ?_, ?_⟩
  · simpa using hc 0 _ (show (eNt xs[i])[0]? = some (.int .i64 xs[i].nEnv) from rfl)
  · simpa [Nat.add_assoc] using hc 1 _ (show (eNt xs[i])[1]? = some (.int .i64 xs[i].nFrm) from rfl)
  · simpa [Nat.add_assoc] using hc 2 _ (show (eNt xs[i])[2]? = some (.int .i64 xs[i].nTil) from rfl)

set_option maxHeartbeats 1000000 in
theorem clos_any (a p : Int) (e : Nt) (b1 b2 : Nat) (w : World) (c1 : w.cell? ⟨b1, 0, none⟩ = some (.int .i64 a)) (c2 : w.cell? ⟨b2, 0, none⟩ = some (.int .i64 p)) :
    Calls Try.prog 27 #[.agg #[.int .i64 e.nEnv, .int .i64 e.nFrm, .int .i64 e.nTil], .pointer (some ⟨b1, 0, none⟩), .pointer (some ⟨b2, 0, none⟩)] w fun r w' => r = .returned (.bool (hasN a p e)) ∧ Below w.heap.size w w' := by
  have h1 := kcell (below1 w (Obj.cells #[.int .i64 e.nEnv, .int .i64 e.nFrm, .int .i64 e.nTil] 39)) c1
  have h2 := kcell (below1 w (Obj.cells #[.int .i64 e.nEnv, .int .i64 e.nFrm, .int .i64 e.nTil] 39)) c2
  clear c1 c2
  cases e1 : (e.nEnv == a)
  · have HH : Hid (hasN a p e = false) := by unfold Hid hasN; rw [e1]; rfl
    go_enter Try.func27, Try.ntmps27
    go_wp2
    go_ret
    exact ⟨ret_bool HH.out.symm, below1 _ _⟩
  · have HH : Hid (hasN a p e = (e.nFrm == p)) := by unfold Hid hasN; rw [e1]; rfl
    go_enter Try.func27, Try.ntmps27
    go_wp2
    go_ret
    exact ⟨ret_bool HH.out.symm, below1 _ _⟩
theorem enter_clos : ∀ args w, (callFunc 27 args).run Try.prog w = .ok (.enter 27 args) w := enters_of Try.func27 (by kernel_rfl) rfl
theorem plc_hit {L : List Nt} {a p : Int} {k : Nat} (hk : k < L.length) (h : hasN a p L[k] = true) (h2 : ∀ j, (hj : j < k) → hasN a p L[j] = false) : plcN L a p = k := by
  unfold plcN fiN
  rw [List.findIdx?_eq_some_iff_getElem.2 ⟨hk, h, fun j hj => by rw [h2 j hj]; simp⟩]
theorem plc_miss {L : List Nt} {a p : Int} (h : ∀ j, (hj : j < L.length) → hasN a p L[j] = false) : plcN L a p = -1 := by
  unfold plcN fiN
  rw [List.findIdx?_eq_none_iff.2 (fun x hx => by obtain ⟨j, hj, rfl⟩ := List.getElem_of_mem hx; exact h j hj)]

set_option maxRecDepth 100000 in
set_option maxHeartbeats 2000000 in
theorem index_any (A : Option Addr) (L : List Nt) (c : Nat) (a p : Int) (b1 b2 : Nat) (w : World) (hs : Sl eNt 3 w A L) (hl : L.length ≤ 1000) (c1 : w.cell? ⟨b1, 0, none⟩ = some (.int .i64 a)) (c2 : w.cell? ⟨b2, 0, none⟩ = some (.int .i64 p)) :
    Calls Try.prog 26 #[.slice A L.length c, .func (.func 27) #[] #[.pointer (some ⟨b1, 0, none⟩), .pointer (some ⟨b2, 0, none⟩)]] w fun e w' => e = .returned (.int .i64 (plcN L a p)) ∧ Below w.heap.size w w' := by
  have eg := enter_clos
  go_enter Try.func26, Try.ntmps26
  go_wp2
  go_loopw [5, 8] (fun _ s8 wr => ∃ k : Nat, k ≤ L.length ∧ s8 = .int .i64 k ∧ Below w.heap.size w wr ∧ Hid (∀ j, (hj : j < L.length) → j < k → hasN a p L[j] = false)) (fun _ i _ => L.length - (intOf i).toNat)
  case atStart => exact ⟨0, Nat.zero_le _, rfl, Below.refl _ w, fun j hj h => absurd h (Nat.not_lt_zero _)⟩
  case round =>
    obtain ⟨k, hk, rfl, hB, HA⟩ := hrel
    by_cases hlt : k < L.length
    · obtain ⟨b, off, rfl, y0, y1, y2⟩ := (hs.keep hB).nt_at hlt
      have k0 : (0 : Int) ≤ (k : Int) := by omega
      have k1 : (k : Int) < (L.length : Int) := by omega
      have hc := clos_any a p L[k] b1 b2 wr (kcell hB c1) (kcell hB c2)
      have HQ : Hid (hasN a p L[k] = true → plcN L a p = k) := fun h => plc_hit hlt h (fun j hj => HA.out j (by omega) hj)
      have HN : Hid (hasN a p L[k] = false → ∀ j, (hj : j < L.length) → j < k + 1 → hasN a p L[j] = false) := fun h j hj hjk => by
        by_cases he : j = k
        · subst he; exact h
        · exact HA.out j hj (by omega)
      clear HA
      generalize L[k] = y at *
      cases hq : hasN a p y with
      | true =>
        rw [hq] at hc
        have HQ2 := Lib.hid (HQ.out hq)
        go_wp2_with (go_at_fn 27; (with_reducible refine hc.mono ?_); rintro e w' ⟨rfl, hb⟩)
        go_ret
        exact ⟨ret_int HQ2.out.symm, bstep hB (Nat.le_refl _) hb⟩
      | false =>
        rw [hq] at hc
        have HN2 := Lib.hid (HN.out hq)
        go_wp2_with (go_at_fn 27; (with_reducible refine hc.mono ?_); rintro e w' ⟨rfl, hb⟩)
        go_roundw
        case rel => exact ⟨k + 1, by omega, by go_num, bstep hB (Nat.le_refl _) hb, HN2.out⟩
        case measure => simp [intOf]; omega
    · obtain rfl : k = L.length := by omega
      go_wp2
      go_ret
      exact ⟨ret_int (plc_miss (fun j hj => HA.out j hj hj)).symm, hB⟩

def RetCl (L : List Nt) (w : World) (e : Ending) (w' : World) : Prop := ∃ (O : Option Addr) (d : Nat), e = .returned (.slice O L.length d) ∧ Sl eNt 3 w' O L ∧ Below w.heap.size w w'
set_option maxHeartbeats 1000000 in
theorem clone_any (A : Option Addr) (L : List Nt) (c : Nat) (base : Nat) (w : World) (ho : Own eNt 3 w base 39 A c L) (hl : L.length ≤ 1000) :
    Calls Try.prog 24 #[.slice A L.length c] w (RetCl L w) := by
  rcases ho.shape with ⟨rfl, rfl, rfl⟩ | ⟨q, rfl⟩
  · simp only [List.length_nil]
    have hq := fun w => Lib.run_eql_slice_nil (P := Try.prog) w 25 39 none 0 0 0 0 Try.underlying25
    go_enter Try.func24, Try.ntmps24
    go_wp2
    go_ret
    exact ⟨none, 0, rfl, Sl.nil _ _, Below.refl _ _⟩
  · have hs := ho.sl eNt_ok
    have hq : q < w.heap.size := (ho.lt q rfl).2
    clear ho
    have hqq := fun w => Lib.run_eql_slice_nil (P := Try.prog) w 25 39 (some ⟨q, 0, none⟩) L.length c 0 0 Try.underlying25
    go_enter Try.func24, Try.ntmps24
    go_wp2_with (at_builtin; refine wpList_append_sl _ rfl _ _ rfl elNt eNt_ok (Own.empty w 39 (base := w.heap.size) (Nat.le_refl _)) (n := 0) rfl rfl (m := L.length) rfl (ys := L) rfl (hs.alloc _) (by simp only [maxLen]; omega) (by omega) (by simp) _ rfl L.length (by simp) ?_; intro A1 e1 w1 own1 hg1 at1; simp only [List.nil_append] at own1)
    go_ret
    exact ⟨A1, e1, rfl, own1.sl eNt_ok, (below1 _ _).grown hg1 (by simp) (fun k hk => by simp [blk] at hk; omega)⟩
end Go.Proofs.Ytdfklbjkcednhaa
