/- Walks: slices.Delete of an upcall; names of kinds; the row of an environment. -/
import Derived.Test.YtciijdajdmcllaaW1
namespace Go.Proofs.Ytciijdajdmcllaa
open Go.RowKit Go.Lib

theorem zero_elem : ∀ w, (zeroValue 38).run Try.prog w = .ok (.agg #[.int .i64 0, .int .i64 0, .int .u64 0]) w := fun w => by kernel_rfl
theorem ret_slice {A : Option Addr} {n m c : Nat} (h : n = m) : Ending.returned (.slice A n c) = .returned (.slice A m c) := by rw [h]

set_option maxRecDepth 1000000 in
set_option maxHeartbeats 4000000 in
theorem del_any (g c i k base : Nat) (L : List Up) (w : World) (own : Own eP 3 w base 38 (some ⟨g, 0, none⟩) c L) (hn : L.length = i + 1 + k) (hl : L.length ≤ 1000) :
    Calls Try.prog 19 #[.slice (some ⟨g, 0, none⟩) L.length c, .int .i64 i, .int .i64 ((i : Int) + 1)] w fun e w' => e = .returned (.slice (some ⟨g, 0, none⟩) (L.eraseIdx i).length c) ∧ Own eP 3 w' base 38 (some ⟨g, 0, none⟩) c (L.eraseIdx i) ∧ w.grownBy w' (some g) := by
  obtain ⟨i0, hi0, hz0, hz1, hz2⟩ := info_parts info_up
  have hcl : (L.eraseIdx i).length = i + k := by rw [List.length_eraseIdx, if_pos (by omega)]; omega
  obtain ⟨_, _, _, hc1, hc2, _, _⟩ := own_block own
  simp only [maxLen] at hc2
  obtain ⟨news, hnews⟩ : ∃ news, news = (L.drop (i + 1)).flatMap eP := ⟨_, rfl⟩
  have s1 : Hid (news.length = k * 3) := by unfold Hid; rw [hnews, flat_len eP_ok.len, List.length_drop]; omega
  have s2 : Hid (∀ u ∈ news, u.oneCell' = true) := fun u hu => one_flat eP_ok _ u (by rw [← hnews]; exact hu)
  have s3 : Hid (∀ t, t < news.length → (w.drew.cell? ⟨g, 0 + i * 3 + t, none⟩).isSome = true ∧ w.drew.frozen? ⟨g, 0 + i * 3 + t, none⟩ = false) := fun t ht => by
    rw [s1.out] at ht
    exact own_room own _ (by omega)
  have HS : Hid (∀ t u, news[t]? = some u → w.drew.cell? ((⟨g, (i + 1) * 3, none⟩ : Addr).add t) = some u) := fun t u hu => by
    have ht : t < k * 3 := by rw [← s1.out]; exact (List.getElem?_eq_some_iff.1 hu).1
    have hF := flat_drop eP_ok.len L (i + 1)
    rw [hnews, hF, List.getElem?_drop] at hu
    rw [Addr.add_lit]
    obtain ⟨cur, _, h2, _, _, _, h6⟩ := own_block own
    show w.cell? _ = _
    rw [cell_of_row w g _ cur _ (0, 0) h2, ← hu, ← h6, List.getElem?_take, if_pos (by omega), Array.getElem?_toList]
  obtain ⟨W1, hW1⟩ : ∃ W1, W1 = w.drew.setCells g (0 + i * 3) news := ⟨_, rfl⟩
  have HW := Lib.hid hW1
  have HG := own_gone (w := w.drew) eP_ok.len own.drew i k hn [.int .i64 0, .int .i64 0, .int .u64 0] rfl
  rw [← hnews, show i * 3 = 0 + i * 3 by omega, ← hW1] at HG
  have HG2 := Lib.hid HG
  have hroom : ∀ j, j < c * 3 → (W1.cell? ⟨g, j, none⟩).isSome = true ∧ W1.frozen? ⟨g, j, none⟩ = false := fun j hj => by
    rw [hW1]
    have := own_room own j hj
    exact ⟨Go.World.isSome_setCells g _ _ _ _ this.1, by rw [World.frozen?_setCells]; exact this.2⟩
  have HCL : ∀ ty n' c', n' = 1 → (Builtin.clear_ #[25] ty #[.slice (some ⟨g, (i + k) * 3, none⟩) n' c']).run Try.prog W1 = .ok (.tuple #[]) (W1.setCells g ((i + k) * 3) [.int .i64 0, .int .i64 0, .int .u64 0]) := fun ty n' c' hn' =>
    run_clear_one W1 _ 38 ty _ Try.underlying25 zero_elem [.int .i64 0, .int .i64 0, .int .u64 0] (by kernel_rfl) (by decide) g ((i + k) * 3) n' c' hn' (fun j hj => hroom _ (by simp at hj; omega))
  clear hW1 HG hroom hnews
  rw [hn]
  rw [hn] at hc1
  have hic : i ≤ c := by omega
  have hjc : i + 1 ≤ c := by omega
  have hi1 : (0 : Int) ≤ (i : Int) + 1 := by omega
  have hi2 : (i : Int) + 1 ≤ (i : Int) + 1 + (k : Int) := by omega
  by_cases hce : c = i + 1
  · obtain rfl : k = 0 := by omega
    obtain rfl : news = [] := List.eq_nil_of_length_eq_zero (by rw [s1.out])
    have HS2 : Hid (∀ t u, ([] : List Value)[t]? = some u → w.drew.cell? ((⟨g, 0, none⟩ : Addr).add t) = some u) := fun t u hu => by simp at hu
    subst hce
    have hcl2 := fun ty => HCL ty (i + 1 - i) (i + 1 - i) (by omega)
    simp only [Nat.add_zero] at hcl2 hcl ⊢
    have hi3 : (i : Int) ≤ (i : Int) + 1 := by omega
    have e1 : i + 1 - i = 1 := by omega
    rw [e1] at hcl2
    clear HCL
    go_enter Try.func19, Try.ntmps19
    go_wp2_with fail
    go_region_law (refine step_append_room rfl (.tmp 22) (.tmp 25) 25 rfl 38 i0 3 Try.underlying25 hi0 hz1 g 0 i (i + 1) (by simp [Act.eval, Act.put]) ⟨g, 0, none⟩ 0 0 [] (by simp [Act.eval, Act.put]) s1.out HS2.out s2.out (by omega) s3.out ?_; rw [← HW.out])
    go_wp2
    go_ret
    exact ⟨ret_slice (by omega), HG2.out.1, ⟨HG2.out.2.os, HG2.out.2.tape, HG2.out.2.output, HG2.out.2.size, HG2.out.2.block⟩⟩
  · have hcl2 := fun ty => HCL ty (i + 1 + k - (i + k)) (c - (i + k)) (by omega)
    clear HCL
    go_enter Try.func19, Try.ntmps19
    go_wp2_with fail
    go_region_law (refine step_append_room rfl (.tmp 22) (.tmp 25) 25 rfl 38 i0 3 Try.underlying25 hi0 hz1 g 0 i c (by simp [Act.eval, Act.put]) ⟨g, (i + 1) * 3, none⟩ k (c - (i + 1)) news (by simp [Act.eval, Act.put]) s1.out HS.out s2.out (by omega) s3.out ?_; rw [← HW.out])
    go_wp2
    go_ret
    exact ⟨ret_slice (by omega), HG2.out.1, ⟨HG2.out.2.os, HG2.out.2.tape, HG2.out.2.output, HG2.out.2.size, HG2.out.2.block⟩⟩

def nameB (k : Int) : ByteArray := if k = 1 then ⟨#[116, 105, 109, 101, 114]⟩ else if k = 2 then ⟨#[105, 110, 116, 101, 114, 114, 117, 112, 116]⟩ else if k = 3 then ⟨#[98, 101, 103, 105, 110, 115]⟩ else if k = 4 then ⟨#[101, 110, 100, 115]⟩ else if k = 5 then ⟨#[119, 97, 110, 116, 101, 100]⟩ else if k = 6 then ⟨#[116, 97, 107, 101, 110]⟩ else if k = 7 then ⟨#[109, 101, 115, 115, 97, 103, 101]⟩ else if k = 8 then ⟨#[102, 97, 117, 108, 116]⟩ else ⟨#[]⟩
theorem name_not {k : Int} (h : okK k = false) : nameB k = ⟨#[]⟩ := by
  have h2 : ¬ (1 ≤ k ∧ k ≤ 8) := of_decide_eq_false h
  unfold nameB
  repeat rw [if_neg (by omega)]
theorem okK_cases {k : Int} (h : okK k = true) : k = 1 ∨ k = 2 ∨ k = 3 ∨ k = 4 ∨ k = 5 ∨ k = 6 ∨ k = 7 ∨ k = 8 := by
  have h2 : 1 ≤ k ∧ k ≤ 8 := of_decide_eq_true h
  omega
theorem name_eql {k : Int} (h : okK k = true) (w : World) : (binOp .eql 9 (.string (nameB k)) (.string ⟨#[]⟩)).run Try.prog w = .ok (.bool false) w := by
  rcases okK_cases h with rfl | rfl | rfl | rfl | rfl | rfl | rfl | rfl <;> kernel_rfl
theorem name_some {k : Int} (h : okK k = true) : (nameB k).toList.isEmpty = false := by
  rcases okK_cases h with rfl | rfl | rfl | rfl | rfl | rfl | rfl | rfl <;> kernel_rfl
theorem name_eql0 (w : World) : (binOp .eql 9 (.string ⟨#[]⟩) (.string ⟨#[]⟩)).run Try.prog w = .ok (.bool true) w := by kernel_rfl
set_option maxHeartbeats 1000000 in
theorem name_any (k : Int) (w : World) : Calls Try.prog 15 #[.int .i64 k] w fun e w' => e = .returned (.string (nameB k)) ∧ w = w' := by
  cases h : okK k
  · have h2 : ¬ (1 ≤ k ∧ k ≤ 8) := of_decide_eq_false h
    rw [name_not h]
    have q1 : (k == 1) = false := by simp; omega
    have q2 : (k == 2) = false := by simp; omega
    have q3 : (k == 3) = false := by simp; omega
    have q4 : (k == 4) = false := by simp; omega
    have q5 : (k == 5) = false := by simp; omega
    have q6 : (k == 6) = false := by simp; omega
    have q7 : (k == 7) = false := by simp; omega
    have q8 : (k == 8) = false := by simp; omega
    go_enter Try.func15, Try.ntmps15
    go_wp2
    go_ret
    exact ⟨rfl, rfl⟩
  · rcases okK_cases h with rfl | rfl | rfl | rfl | rfl | rfl | rfl | rfl
    all_goals
      go_enter Try.func15, Try.ntmps15
      go_wp2
      go_ret
      exact ⟨rfl, rfl⟩
set_option maxHeartbeats 1000000 in
theorem ren_any (k : Int) (w : World) : Calls Try.prog 18 #[.int .i64 k] w fun e w' => e = .returned (.bool (renU k)) ∧ w = w' := by
  unfold renU
  cases h1 : (k == 1)
  · cases h3 : (k == 3)
    · go_enter Try.func18, Try.ntmps18
      go_wp2
      go_ret
      exact ⟨rfl, rfl⟩
    · go_enter Try.func18, Try.ntmps18
      go_wp2
      go_ret
      exact ⟨rfl, rfl⟩
  · go_enter Try.func18, Try.ntmps18
    go_wp2
    go_ret
    exact ⟨rfl, rfl⟩
set_option maxHeartbeats 1000000 in
theorem of_yes (g i : Nat) (hi : i < 8) (w : World) : Calls Try.prog 17 #[.pointer (some ⟨g, 0, none⟩), .int .i64 i] w fun e w' => e = .returned (.pointer (some ⟨g, i * 2, none⟩)) ∧ w = w' := by
  have h0 : ¬ (i : Int) < 0 := by omega
  have h1 : ¬ (8 : Int) ≤ (i : Int) := by omega
  have h2 : (0 : Int) ≤ (i : Int) := by omega
  have h3 : (i : Int) < 8 := by omega
  go_enter Try.func17, Try.ntmps17
  go_wp2
  go_ret
  exact ⟨rfl, rfl⟩
set_option maxHeartbeats 1000000 in
theorem of_no (g : Nat) (i : Int) (hi : i < 0 ∨ 7 < i) (w : World) : Calls Try.prog 17 #[.pointer (some ⟨g, 0, none⟩), .int .i64 i] w fun e w' => e = .returned (.pointer none) ∧ w = w' := by
  rcases hi with h | h
  · go_enter Try.func17, Try.ntmps17
    go_wp2
    go_ret
    exact ⟨rfl, rfl⟩
  · have h0 : ¬ i < 0 := by omega
    have h1 : (8 : Int) ≤ i := by omega
    go_enter Try.func17, Try.ntmps17
    go_wp2
    go_ret
    exact ⟨rfl, rfl⟩
set_option maxHeartbeats 1000000 in
theorem to_any (u : Up) (w : World) : Calls Try.prog 7 #[.agg #[.int .i64 u.kind, .int .i64 u.a, .int .u64 u.b]] w fun r w' => r = .returned (.agg #[.int .i64 u.kind, .int .i64 u.a, .int .u64 u.b]) ∧ Below w.heap.size w w' := by
  go_enter Try.func7, Try.ntmps7
  go_wp2
  exact bodyPost_ret (v := .agg #[.int .i64 u.kind, .int .i64 u.a, .int .u64 u.b]) (by simp [results, Try.results7, go_sem]) rfl ⟨rfl, (below1 _ _).alloc (by simp) _⟩
end Go.Proofs.Ytciijdajdmcllaa
