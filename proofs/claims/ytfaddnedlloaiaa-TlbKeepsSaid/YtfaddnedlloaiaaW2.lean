/- Walks: the place of a page's translation; taking one out; Right. -/
import Derived.Test.YtfaddnedlloaiaaW1
namespace Go.Proofs.Ytfaddnedlloaiaa
open Go.RowKit Go.Lib

set_option maxHeartbeats 1000000 in
theorem place_any (g : Nat) (A : Option Addr) (c : Nat) (L : List En) (h m a p : Int) (w : World) (ht : Tb w g A c L h m) (hl : L.length ≤ 1000) :
    Calls Try.prog 10 #[.pointer (some ⟨g, 0, none⟩), .int .i64 a, .int .i64 p] w fun e w' => e = .returned (.int .i64 (plc L a p)) ∧ Below w.heap.size w w' := by
  have hB : Below w.heap.size w ((w.alloc (Obj.cells #[.int .i64 a] 3)).alloc (Obj.cells #[.int .i64 p] 3)) := (below1 _ _).alloc (by simp) _
  have t2 := ht.keep hB
  have c0 := t2.1.cell 0 (.slice A L.length c) rfl
  have hc := index_any A L c a p w.heap.size (w.heap.size + 1) _ (t2.2.sl eE_ok) hl (kcell (below1 _ _) ((Blk.new w 3 #[.int .i64 a]).cell 0 _ rfl)) ((Blk.new' (w.alloc (Obj.cells #[.int .i64 a] 3)) 3 #[.int .i64 p] (g := w.heap.size + 1) (by simp)).cell 0 _ rfl)
  go_enter Try.func10, Try.ntmps10
  go_wp2_with (go_at_call 12; (with_reducible refine hc.mono ?_); rintro e w' ⟨rfl, hb⟩)
  go_ret
  exact ⟨rfl, bstep hB (Nat.le_refl _) hb⟩
theorem zero_en : ∀ w, (zeroValue 31).run Try.prog w = .ok (.agg #[.int .i64 0, .int .i64 0, .int .i64 0, .bool false]) w := fun w => by kernel_rfl
theorem ret_slice {A : Option Addr} {n m c : Nat} (h : n = m) : Ending.returned (.slice A n c) = .returned (.slice A m c) := by rw [h]

set_option maxRecDepth 1000000 in
set_option maxHeartbeats 4000000 in
theorem del_any (g c i k base : Nat) (L : List En) (w : World) (own : Own eE 4 w base 31 (some ⟨g, 0, none⟩) c L) (hn : L.length = i + 1 + k) (hl : L.length ≤ 1000) :
    Calls Try.prog 14 #[.slice (some ⟨g, 0, none⟩) L.length c, .int .i64 i, .int .i64 ((i : Int) + 1)] w fun e w' => e = .returned (.slice (some ⟨g, 0, none⟩) (L.eraseIdx i).length c) ∧ Own eE 4 w' base 31 (some ⟨g, 0, none⟩) c (L.eraseIdx i) ∧ w.grownBy w' (some g) := by
  obtain ⟨i0, hi0, hz0, hz1, hz2⟩ := info_parts info_en
  have hcl : (L.eraseIdx i).length = i + k := by rw [List.length_eraseIdx, if_pos (by omega)]; omega
  obtain ⟨_, _, _, hc1, hc2, _, _⟩ := own_block own
  simp only [maxLen] at hc2
  obtain ⟨news, hnews⟩ : ∃ news, news = (L.drop (i + 1)).flatMap eE := ⟨_, rfl⟩
  have s1 : Hid (news.length = k * 4) := by unfold Hid; rw [hnews, flat_len eE_ok.len, List.length_drop]; omega
  have s2 : Hid (∀ u ∈ news, u.oneCell' = true) := fun u hu => one_flat eE_ok _ u (by rw [← hnews]; exact hu)
  have s3 : Hid (∀ t, t < news.length → (w.drew.cell? ⟨g, 0 + i * 4 + t, none⟩).isSome = true ∧ w.drew.frozen? ⟨g, 0 + i * 4 + t, none⟩ = false) := fun t ht => by
    rw [s1.out] at ht
    exact own_room own _ (by omega)
  have hsl := own.sl eE_ok
  have HS : Hid (∀ t u, news[t]? = some u → w.drew.cell? ((⟨g, (i + 1) * 4, none⟩ : Addr).add t) = some u) := fun t u hu => by
    have ht : t < k * 4 := by rw [← s1.out]; exact (List.getElem?_eq_some_iff.1 hu).1
    have hF := flat_drop eE_ok.len L (i + 1)
    rw [hnews, hF, List.getElem?_drop] at hu
    rw [Addr.add_lit]
    obtain ⟨cur, _, h2, _, _, _, h6⟩ := own_block own
    show w.cell? _ = _
    rw [cell_of_row w g _ cur _ (0, 0) h2, ← hu, ← h6, List.getElem?_take, if_pos (by omega), Array.getElem?_toList]
  obtain ⟨W1, hW1⟩ : ∃ W1, W1 = w.drew.setCells g (0 + i * 4) news := ⟨_, rfl⟩
  have HW := Lib.hid hW1
  have HG := own_gone (w := w.drew) eE_ok.len own.drew i k hn [.int .i64 0, .int .i64 0, .int .i64 0, .bool false] rfl
  rw [← hnews, show i * 4 = 0 + i * 4 by omega, ← hW1] at HG
  have HG2 := Lib.hid HG
  have hroom : ∀ j, j < c * 4 → (W1.cell? ⟨g, j, none⟩).isSome = true ∧ W1.frozen? ⟨g, j, none⟩ = false := fun j hj => by
    rw [hW1]
    have := own_room own j hj
    exact ⟨Go.World.isSome_setCells g _ _ _ _ this.1, by rw [World.frozen?_setCells]; exact this.2⟩
  have HCL : ∀ ty n' c', n' = 1 → (Builtin.clear_ #[28] ty #[.slice (some ⟨g, (i + k) * 4, none⟩) n' c']).run Try.prog W1 = .ok (.tuple #[]) (W1.setCells g ((i + k) * 4) [.int .i64 0, .int .i64 0, .int .i64 0, .bool false]) := fun ty n' c' hn' =>
    run_clear_one W1 _ 31 ty _ Try.underlying28 zero_en [.int .i64 0, .int .i64 0, .int .i64 0, .bool false] (by kernel_rfl) (by decide) g ((i + k) * 4) n' c' hn' (fun j hj => hroom _ (by simp at hj; omega))
  clear hW1 HG hroom hsl hnews
  rw [hn]
  rw [hn] at hc1
  have hic : i ≤ c := by omega
  have hjc : i + 1 ≤ c := by omega
  have hi1 : (0 : Int) ≤ (i : Int) + 1 := by omega
  have hi2 : (i : Int) + 1 ≤ (i : Int) + 1 + (k : Int) := by omega
  by_cases hce : c = i + 1
  · obtain rfl : k = 0 := by omega
    obtain rfl : news = [] := List.eq_nil_of_length_eq_zero (by rw [s1.out])
    have HS2 : Hid (∀ t u, ([] : List Value)[t]? = some u → w.drew.cell? ((⟨g, 0, none⟩ : Addr).add t) = some u) := fun t u hu => by simp at hu
    subst hce
    have hcl2 := fun ty => HCL ty (i + 1 - i) (i + 1 - i) (by omega)
    simp only [Nat.add_zero] at hcl2 hcl ⊢
    have hi3 : (i : Int) ≤ (i : Int) + 1 := by omega
    have e1 : i + 1 - i = 1 := by omega
    rw [e1] at hcl2
    clear HCL
    go_enter Try.func14, Try.ntmps14
    go_wp2_with fail
    go_region_law (refine step_append_room rfl (.tmp 22) (.tmp 25) 28 rfl 31 i0 4 Try.underlying28 hi0 hz1 g 0 i (i + 1) (by simp [Act.eval, Act.put]) ⟨g, 0, none⟩ 0 0 [] (by simp [Act.eval, Act.put]) s1.out HS2.out s2.out (by omega) s3.out ?_; rw [← HW.out])
    go_wp2
    go_ret
    exact ⟨ret_slice (by omega), HG2.out.1, ⟨HG2.out.2.os, HG2.out.2.tape, HG2.out.2.output, HG2.out.2.size, HG2.out.2.block⟩⟩
  · have hcl2 := fun ty => HCL ty (i + 1 + k - (i + k)) (c - (i + k)) (by omega)
    clear HCL
    go_enter Try.func14, Try.ntmps14
    go_wp2_with fail
    go_region_law (refine step_append_room rfl (.tmp 22) (.tmp 25) 28 rfl 31 i0 4 Try.underlying28 hi0 hz1 g 0 i c (by simp [Act.eval, Act.put]) ⟨g, (i + 1) * 4, none⟩ k (c - (i + 1)) news (by simp [Act.eval, Act.put]) s1.out HS.out s2.out (by omega) s3.out ?_; rw [← HW.out])
    go_wp2
    go_ret
    exact ⟨ret_slice (by omega), HG2.out.1, ⟨HG2.out.2.os, HG2.out.2.tape, HG2.out.2.output, HG2.out.2.size, HG2.out.2.block⟩⟩
end Go.Proofs.Ytfaddnedlloaiaa
