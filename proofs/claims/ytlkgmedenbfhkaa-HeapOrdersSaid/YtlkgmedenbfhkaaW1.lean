/- Walks over package heap: the heap in memory; empty, Len, ahead, swap. -/
import Derived.Test.YtlkgmedenbfhkaaM1
import Derived.Test.YtlkgmedenbfhkaaPut
import Derived.Test.YtlkgmedenbfhkaaSoft4
import Derived.Test.YtlkgmedenbfhkaaKp
import Derived.StillTailTactics
namespace Go.Proofs.Ytlkgmedenbfhkaa
open Go.RowKit Go.Lib

def eN (x : En) : List Value := [.int .i64 x.key, .int .i64 x.what, .int .i64 x.handle, .int .i64 x.turn]
theorem eN_len (x : En) : (eN x).length = 4 := rfl
theorem eN_ok : EncOk eN 4 := ⟨eN_len, fun x u hu => by simp [eN] at hu; rcases hu with rfl | rfl | rfl | rfl <;> rfl⟩
theorem info_en : (Try.prog.info? 43).map (fun i => (i.zero, i.size, i.bytes)) = some (some (.agg #[.int .i64 0, .int .i64 0, .int .i64 0, .int .i64 0]), 4, 32) := by kernel_rfl
theorem elN : Elem Try.prog 33 43 4 32 := elem_mk Try.underlying33 info_en rfl (by omega)
structure Hq (F : Nat → Prop) (w : World) (g : Nat) (A : Option Addr) (c mb : Nat) (E : List En) (hd tn : Int) : Prop where
  blk : Blk w g 36 #[.bool true, .slice A E.length c, .map (some mb), .int .i64 hd, .int .i64 tn]
  own : Own eN 4 w 0 43 A c E
  mp : MapI w mb
  gm : g ≠ mb
  ng : Go.Proofs.Ytlkgmedenbfhkaa.blk A ≠ some g
  nm : Go.Proofs.Ytlkgmedenbfhkaa.blk A ≠ some mb
  off : ∀ i, F i → i < w.heap.size ∧ i ≠ g ∧ i ≠ mb ∧ Go.Proofs.Ytlkgmedenbfhkaa.blk A ≠ some i
section
variable {F : Nat → Prop} {w w' : World} {g : Nat} {A : Option Addr} {c mb : Nat} {E : List En} {hd tn : Int}
theorem Hq.keep (h : Hq F w g A c mb E hd tn) (hb : Below w.heap.size w w') : Hq F w' g A c mb E hd tn := ⟨h.blk.keep hb, h.own.keep hb, h.mp.keep hb, h.gm, h.ng, h.nm, fun i hi => ⟨Nat.lt_of_lt_of_le (h.off i hi).1 hb.size, (h.off i hi).2⟩⟩
theorem Hq.drew (h : Hq F w g A c mb E hd tn) : Hq F w.drew g A c mb E hd tn := ⟨h.blk.drew, h.own.drew, h.mp.drew, h.gm, h.ng, h.nm, h.off⟩
theorem Hq.drewN (h : Hq F w g A c mb E hd tn) (n : Nat) : Hq F (w.drewN n) g A c mb E hd tn := ⟨h.blk.drewN n, h.own.drewN n, h.mp, h.gm, h.ng, h.nm, h.off⟩
theorem Hq.c0 (h : Hq F w g A c mb E hd tn) : w.cell? ⟨g, 0, none⟩ = some (.bool true) := h.blk.cell 0 _ rfl
theorem Hq.c1 (h : Hq F w g A c mb E hd tn) : w.cell? ⟨g, 1, none⟩ = some (.slice A E.length c) := h.blk.cell 1 _ rfl
theorem Hq.c2 (h : Hq F w g A c mb E hd tn) : w.cell? ⟨g, 2, none⟩ = some (.map (some mb)) := h.blk.cell 2 _ rfl
theorem Hq.c3 (h : Hq F w g A c mb E hd tn) : w.cell? ⟨g, 3, none⟩ = some (.int .i64 hd) := h.blk.cell 3 _ rfl
theorem Hq.c4 (h : Hq F w g A c mb E hd tn) : w.cell? ⟨g, 4, none⟩ = some (.int .i64 tn) := h.blk.cell 4 _ rfl
/-- where there is an entry, there is a row -/
theorem Hq.at_ (h : Hq F w g A c mb E hd tn) {i : Nat} (hi : i < E.length) : ∃ q, A = some ⟨q, 0, none⟩ ∧ q ≠ g ∧ q ≠ mb := by
  rcases h.own.shape with ⟨_, e, _⟩ | ⟨q, rfl⟩
  · rw [e] at hi; simp at hi
  · exact ⟨q, rfl, fun e => h.ng (by rw [← e]; rfl), fun e => h.nm (by rw [← e]; rfl)⟩
theorem Hq.en {q : Nat} (h : Hq F w g (some ⟨q, 0, none⟩) c mb E hd tn) {i : Nat} (hi : i < E.length) : w.cell? ⟨q, i * 4, none⟩ = some (.int .i64 (atE E i).key) ∧ w.cell? ⟨q, i * 4 + 1, none⟩ = some (.int .i64 (atE E i).what) ∧ w.cell? ⟨q, i * 4 + 1 + 1, none⟩ = some (.int .i64 (atE E i).handle) ∧ w.cell? ⟨q, i * 4 + 1 + 1 + 1, none⟩ = some (.int .i64 (atE E i).turn) := by
  rw [← atE_eq hi]
  exact ⟨own_cell eN_ok h.own hi (j := 0) rfl, own_cell eN_ok h.own hi (j := 1) rfl, own_cell eN_ok h.own hi (j := 2) rfl, own_cell eN_ok h.own hi (j := 3) rfl⟩
/-- another list in the same row -/
theorem Hq.turn {q : Nat} {E' : List En} (h : Hq F w g (some ⟨q, 0, none⟩) c mb E hd tn) (ho : Own eN 4 w' 0 43 (some ⟨q, 0, none⟩) c E') (hl : E'.length = E.length) (hg : w.grownBy w' (some q)) : Hq F w' g (some ⟨q, 0, none⟩) c mb E' hd tn ∧ Kp F w w' := by
  have h1 : g ≠ q := fun e => h.ng (by rw [e]; rfl)
  have h2 : mb ≠ q := fun e => h.nm (by rw [e]; rfl)
  refine ⟨⟨?_, ho, h.mp.far hg h2, h.gm, h.ng, h.nm, fun i hi => ⟨Nat.lt_of_lt_of_le (h.off i hi).1 hg.size, (h.off i hi).2⟩⟩, Kp.grown hg fun i hi => ⟨(h.off i hi).1, fun e => (h.off i hi).2.2.2 e.symm⟩⟩
  rw [hl]
  exact h.blk.grown hg (fun e => h1 (by injection e))
/-- a store into the map -/
theorem Hq.mapped (h : Hq F w g A c mb E hd tn) (hm : MapI w' mb) (hg : w.grownBy w' (some mb)) : Hq F w' g A c mb E hd tn ∧ Kp F w w' :=
  ⟨⟨h.blk.grown hg (fun e => h.gm (by injection e)), h.own.kept hg (.inr h.nm), hm, h.gm, h.ng, h.nm, fun i hi => ⟨Nat.lt_of_lt_of_le (h.off i hi).1 hg.size, (h.off i hi).2⟩⟩, Kp.grown hg fun i hi => ⟨(h.off i hi).1, fun e => (h.off i hi).2.2.1 (by injection e)⟩⟩
end
def Hp (F : Nat → Prop) (w : World) (g : Nat) (E : List En) (hd tn : Int) : Prop := ∃ A c mb, Hq F w g A c mb E hd tn
section
variable {F : Nat → Prop} {w w' : World} {g : Nat} {E : List En} {hd tn : Int}
theorem Hp.keep (h : Hp F w g E hd tn) (hb : Below w.heap.size w w') : Hp F w' g E hd tn := by
  obtain ⟨A, c, mb, h⟩ := h
  exact ⟨A, c, mb, h.keep hb⟩
theorem Hp.drew (h : Hp F w g E hd tn) : Hp F w.drew g E hd tn := by
  obtain ⟨A, c, mb, h⟩ := h
  exact ⟨A, c, mb, h.drew⟩
theorem Hp.lt (h : Hp F w g E hd tn) : ∀ i, F i → i < w.heap.size := fun i hi => by
  obtain ⟨A, c, mb, h⟩ := h
  exact (h.off i hi).1
/-- a call that keeps what was there -/
theorem Hp.kp (h : Hp F w g E hd tn) (hb : Below w.heap.size w w') : Kp F w w' := Kp.of_below hb h.lt
/-- one block more that is none of the heap's: a new one -/
theorem Hp.box (h : Hp F w g E hd tn) (o : Obj) : Hp (fun i => F i ∨ i = w.heap.size) (w.alloc o) g E hd tn := by
  obtain ⟨A, c, mb, h⟩ := h
  have hk := h.keep (below1 w o)
  refine ⟨A, c, mb, hk.blk, hk.own, hk.mp, hk.gm, hk.ng, hk.nm, fun i hi => ?_⟩
  rcases hi with hi | rfl
  · exact hk.off i hi
  · exact ⟨by simp, by have := h.blk.lt; omega, by have := h.mp.lt; omega, fun e => by have := (h.own.lt _ e).2; omega⟩
theorem Hp.less {G : Nat → Prop} (h : Hp F w g E hd tn) (hG : ∀ i, G i → F i) : Hp G w g E hd tn := by
  obtain ⟨A, c, mb, h⟩ := h
  exact ⟨A, c, mb, h.blk, h.own, h.mp, h.gm, h.ng, h.nm, fun i hi => h.off i (hG i hi)⟩
end
set_option maxHeartbeats 1000000 in
theorem empty_any (F : Nat → Prop) (g : Nat) (E : List En) (hd tn : Int) (w : World) (h : Hp F w g E hd tn) : Calls Try.prog 14 #[.pointer (some ⟨g, 0, none⟩)] w fun e w' => e = .returned (.bool (decide (E.length = 0))) ∧ w = w' := by
  obtain ⟨A, c, mb, h⟩ := h
  have c0 := h.c0
  have c1 := h.c1
  clear h
  have HD : Hid (((E.length : Int) == 0) = decide (E.length = 0)) := by unfold Hid; rw [Bool.eq_iff_iff]; simp
  generalize E.length = n at *
  go_enter Try.func14, Try.ntmps14
  go_wp2
  go_ret
  exact ⟨by rw [← HD.out]; rfl, rfl⟩
set_option maxHeartbeats 1000000 in
theorem len_any (F : Nat → Prop) (g : Nat) (E : List En) (hd tn : Int) (w : World) (h : Hp F w g E hd tn) : Calls Try.prog 10 #[.pointer (some ⟨g, 0, none⟩)] w fun e w' => e = .returned (.int .i64 E.length) ∧ w = w' := by
  have HE := Lib.hid (empty_any F g E hd tn w h)
  obtain ⟨A, c, mb, h⟩ := h
  have c1 := h.c1
  clear h
  by_cases h0 : E.length = 0
  · rw [decide_eq_true h0] at HE
    have HZ := Lib.hid h0
    clear h0
    generalize E.length = n at *
    go_enter Try.func10, Try.ntmps10
    go_wp2_with fail
    refine HE.out.mono ?_
    rintro e w2 ⟨rfl, rfl⟩
    go_wp2_with fail
    go_ret
    exact ⟨by rw [HZ.out]; rfl, rfl⟩
  · rw [decide_eq_false h0] at HE
    clear h0
    generalize E.length = n at *
    go_enter Try.func10, Try.ntmps10
    go_wp2_with fail
    refine HE.out.mono ?_
    rintro e w2 ⟨rfl, rfl⟩
    go_wp2_with fail
    go_ret
    exact ⟨rfl, rfl⟩
set_option maxRecDepth 100000 in
set_option maxHeartbeats 4000000 in
theorem ahead_any (F : Nat → Prop) (g : Nat) (E : List En) (hd tn : Int) (i j : Nat) (w : World) (h : Hp F w g E hd tn) (hi : i < E.length) (hj : j < E.length) : Calls Try.prog 17 #[.pointer (some ⟨g, 0, none⟩), .int .i64 i, .int .i64 j] w fun e w' => e = .returned (.bool (ltE (atE E i) (atE E j))) ∧ Below w.heap.size w w' := by
  obtain ⟨A, c, mb, h⟩ := h
  obtain ⟨q, rfl, _, _⟩ := h.at_ hi
  have c1 := h.c1
  obtain ⟨a0, a1, a2, a3⟩ := h.en hi
  obtain ⟨b0, b1, b2, b3⟩ := h.en hj
  clear h
  have i0 : (0 : Int) ≤ (i : Int) := by omega
  have j0 : (0 : Int) ≤ (j : Int) := by omega
  have i1 : (i : Int) < (E.length : Int) := by omega
  have j1 : (j : Int) < (E.length : Int) := by omega
  generalize E.length = n at *
  generalize atE E i = a at *
  generalize atE E j = b at *
  have H1 : Hid (a.key ≠ b.key → ltE a b = decide (a.key < b.key)) := fun hk => by unfold ltE; rw [decide_eq_decide]; omega
  have H2 : Hid (a.key = b.key → ltE a b = decide (a.turn < b.turn)) := fun hk => by unfold ltE; rw [decide_eq_decide]; omega
  go_enter Try.func17, Try.ntmps17
  go_wp2_with fail
  have aft_c1 := Aft.cell c1
  have aft_a0 := Aft.cell a0
  have aft_a1 := Aft.cell a1
  have aft_a2 := Aft.cell a2
  have aft_a3 := Aft.cell a3
  have aft_b0 := Aft.cell b0
  have aft_b1 := Aft.cell b1
  have aft_b2 := Aft.cell b2
  have aft_b3 := Aft.cell b3
  refine wp_region_soft [7, 8] (fun d => if d = 7 then ⟨43, fun g => .pointer (some ⟨g, 0, none⟩), #[.int .i64 0, .int .i64 0, .int .i64 0, .int .i64 0], #[.int .i64 a.key, .int .i64 a.what, .int .i64 a.handle, .int .i64 a.turn]⟩ else ⟨43, fun g => .pointer (some ⟨g, 0, none⟩), #[.int .i64 0, .int .i64 0, .int .i64 0, .int .i64 0], #[.int .i64 b.key, .int .i64 b.what, .int .i64 b.handle, .int .i64 b.turn]⟩) 42 (by kernel_rfl) (by kernel_rfl) (by rfl) ?_
  repeat (first | (refine sh_q (by rfl) (by rfl) (by rfl) (fun K hK => ?_); go_big_quiet_op; refine hK _ ?_; clear hK K) | (refine sh_skip (by rfl) (by rfl) ?_; (try simp only [Act.put, List.setIfInBounds_toArray, List.set_cons_zero, List.set_cons_succ])) | (refine sh_call (by rfl) (by rfl) (by rfl) (fun K hK => ?_); go_simp; (try simp only [CUp, true_and]); first | (apply Exists.intro; refine ⟨fun n => rfl, hK _ ?_⟩; clear hK K; (try simp only [Act.put, List.setIfInBounds_toArray, List.set_cons_zero, List.set_cons_succ]))) | (refine sh_m 7 (by rfl) (fun n => by go_simp) ?_; (try simp only [Act.put, List.setIfInBounds_toArray, List.set_cons_zero, List.set_cons_succ])) | (refine sh_m 8 (by rfl) (fun n => by go_simp) ?_; (try simp only [Act.put, List.setIfInBounds_toArray, List.set_cons_zero, List.set_cons_succ])) | (refine sh_s 7 (by rfl) (fun g w hb => ⟨((((w.setCell ⟨g, 0, none⟩ (.int .i64 a.key)).setCell ⟨g, 1, none⟩ (.int .i64 a.what)).setCell ⟨g, 2, none⟩ (.int .i64 a.handle)).setCell ⟨g, 3, none⟩ (.int .i64 a.turn)), by (have b0 := hb.cell 0 (.int .i64 0) rfl; have f0 := hb.frozen 0; have b1 := hb.cell 1 (.int .i64 0) rfl; have f1 := hb.frozen 1; have b2 := hb.cell 2 (.int .i64 0) rfl; have f2 := hb.frozen 2; have b3 := hb.cell 3 (.int .i64 0) rfl; have f3 := hb.frozen 3; go_simp), by (have hb2 := ((((hb.set_ 0 (.int .i64 a.key)).set_ 1 (.int .i64 a.what)).set_ 2 (.int .i64 a.handle)).set_ 3 (.int .i64 a.turn)); simpa using hb2), only_set (only_set (only_set (only_set (only_refl w g) 0 (.int .i64 a.key)) 1 (.int .i64 a.what)) 2 (.int .i64 a.handle)) 3 (.int .i64 a.turn)⟩) ?_; (try simp only [Act.put, List.setIfInBounds_toArray, List.set_cons_zero, List.set_cons_succ])) | (refine sh_s 8 (by rfl) (fun g w hb => ⟨((((w.setCell ⟨g, 0, none⟩ (.int .i64 b.key)).setCell ⟨g, 1, none⟩ (.int .i64 b.what)).setCell ⟨g, 2, none⟩ (.int .i64 b.handle)).setCell ⟨g, 3, none⟩ (.int .i64 b.turn)), by (have b0 := hb.cell 0 (.int .i64 0) rfl; have f0 := hb.frozen 0; have b1 := hb.cell 1 (.int .i64 0) rfl; have f1 := hb.frozen 1; have b2 := hb.cell 2 (.int .i64 0) rfl; have f2 := hb.frozen 2; have b3 := hb.cell 3 (.int .i64 0) rfl; have f3 := hb.frozen 3; go_simp), by (have hb2 := ((((hb.set_ 0 (.int .i64 b.key)).set_ 1 (.int .i64 b.what)).set_ 2 (.int .i64 b.handle)).set_ 3 (.int .i64 b.turn)); simpa using hb2), only_set (only_set (only_set (only_set (only_refl w g) 0 (.int .i64 b.key)) 1 (.int .i64 b.what)) 2 (.int .i64 b.handle)) 3 (.int .i64 b.turn)⟩) ?_; (try simp only [Act.put, List.setIfInBounds_toArray, List.set_cons_zero, List.set_cons_succ])))
  refine sh_end ?_
  intro γ w5 hb hmem hinj
  have hm7 := hmem 7 (by simp)
  have hm8 := hmem 8 (by simp)
  have ne7_8 : γ 7 ≠ γ 8 := fun e => by have := hinj 7 (by simp) 8 (by simp) e; omega
  clear hmem hinj aft_c1 aft_a0 aft_a1 aft_a2 aft_a3 aft_b0 aft_b1 aft_b2 aft_b3
  simp only [putM, Act.put, List.setIfInBounds_toArray, List.set_cons_zero, List.set_cons_succ, reduceIte, Nat.reduceEqDiff]
  simp only [reduceIte, Nat.reduceEqDiff] at hm7 hm8
  generalize γ 7 = g7 at *
  generalize γ 8 = g8 at *
  clear γ
  clear c1 a0 a1 a2 a3 b0 b1 b2 b3
  have x0 := hm7.2.cell 0 (.int .i64 a.key) rfl
  have x3 := hm7.2.cell 2 (.int .i64 a.handle) rfl
  have x4 := hm7.2.cell 3 (.int .i64 a.turn) rfl
  have y0 := hm8.2.cell 0 (.int .i64 b.key) rfl
  have y3 := hm8.2.cell 2 (.int .i64 b.handle) rfl
  have y4 := hm8.2.cell 3 (.int .i64 b.turn) rfl
  by_cases hk : a.key = b.key
  · have hb1 : (a.key != b.key) = false := by simp [hk]
    have H3 := Lib.hid (H2.out hk)
    clear hk H1 H2
    go_wp2_with fail
    go_ret
    exact ⟨by rw [H3.out]; rfl, hb⟩
  · have hb1 : (a.key != b.key) = true := by simp [hk]
    have H3 := Lib.hid (H1.out hk)
    clear hk H1 H2
    go_wp2_with fail
    go_ret
    exact ⟨by rw [H3.out]; rfl, hb⟩
end Go.Proofs.Ytlkgmedenbfhkaa
