/- Walks over package heap: remove of the first, Pop, New; no heap. -/
import Derived.Test.YtlkgmedenbfhkaaW3
import Derived.Deep.DeepCutAuto
import Derived.Deep.CutBlock
namespace Go.Proofs.Ytlkgmedenbfhkaa
open Go.RowKit Go.Lib

/-- the last one is cut off -/
theorem Hq.cut {F : Nat → Prop} {w : World} {g q c mb : Nat} {E : List En} {hd tn : Int} (h : Hq F w g (some ⟨q, 0, none⟩) c mb E hd tn) {n : Nat} (hn : n ≤ E.length) :
    Hq F (w.setCell ⟨g, 1, none⟩ (.slice (some ⟨q, 0, none⟩) n c)) g (some ⟨q, 0, none⟩) c mb (E.take n) hd tn ∧ Kp F w (w.setCell ⟨g, 1, none⟩ (.slice (some ⟨q, 0, none⟩) n c)) := by
  have hg := only_set (only_refl w g) 1 (.slice (some ⟨q, 0, none⟩) n c)
  have hl : (E.take n).length = n := by simp; omega
  refine ⟨⟨?_, (own_cut eN_len h.own hn).kept hg (.inr h.ng), h.mp.far hg (fun e => h.gm e.symm), h.gm, h.ng, h.nm, fun i hi => ⟨Nat.lt_of_lt_of_le (h.off i hi).1 hg.size, (h.off i hi).2⟩⟩, Kp.grown hg fun i hi => ⟨(h.off i hi).1, fun e => (h.off i hi).2.1 (by injection e)⟩⟩
  have hb := h.blk.set_ 1 (.slice (some ⟨q, 0, none⟩) n c)
  rw [hl]
  exact hb
set_option maxRecDepth 100000 in
set_option maxHeartbeats 4000000 in
theorem remove_any (F : Nat → Prop) (g n : Nat) (E : List En) (hd tn : Int) (w : World) (hn : E.length = n + 1) (hl : E.length ≤ 1000) (h : Hp F w g E hd tn) (hH : HeapB E) :
    Calls Try.prog 15 #[.pointer (some ⟨g, 0, none⟩), .int .i64 0] w (RetV F g hd tn (fun E' => (atE E 0 :: E').Perm E ∧ HeapB E') w) := by
  have HTP := Lib.hid (take_swap_perm n hn)
  have n0 : (0 : Int) ≤ (n : Int) := by omega
  have n1 : (n : Int) ≤ 1000 := by omega
  by_cases h0 : n = 0
  · subst h0
    have hE : E = [atE E 0] := by
      match E, hn with
      | [x], _ => rfl
    obtain ⟨A, c, mb, h⟩ := h
    obtain ⟨q, rfl, hqg, hqm⟩ := h.at_ (i := 0) (by omega)
    have c1 := h.c1
    have c2 := h.c2
    have f1 := h.blk.frozen 1
    have a2 := (h.en (i := 0) (by omega)).2.2.1
    have HC := Lib.hid (h.cut (n := 0) (by omega))
    rw [hn] at c1
    simp only [Nat.zero_mul, Nat.zero_add, Nat.reduceAdd] at a2 c1
    have HEE := Lib.hid hE
    clear h hE
    generalize (atE E 0).handle = ha at *
    go_enter Try.func15, Try.ntmps15
    go_upto_region 5 with (fail)
    refine at_world (F := Code.wp _ _ _ _) (fun W => Hq F W g (some ⟨q, 0, none⟩) c mb (E.take 0) hd tn ∧ Kp F w W) HC.out ?_
    rintro w2 ⟨hq2, hk2⟩
    clear c1 c2 f1 a2 HC
    have c2 := hq2.c2
    have HQ2 := Lib.hid hq2
    clear hq2
    go_wp2_with (at_delete; refine wpList_delete_mapI w2 rfl _ _ 34 3 3 rfl Try.underlying34 Try.underlying3 mb ha rfl rfl HQ2.out.mp ?_; intro w3 hm3 hg3)
    go_end0
    have hq3 := HQ2.out.mapped hm3 hg3
    exact ⟨rfl, ⟨_, ⟨_, _, _, hq3.1⟩, by rw [List.take_zero]; rw [← HEE.out], fun j hj => absurd hj (by simp)⟩, hk2.trans hq3.2⟩
  · have HS := Lib.hid (swap_any F g E hd tn 0 n w h (by omega) (by omega) (by omega))
    have HD := Lib.hid (heap_drop hH n hn)
    obtain ⟨A, c, mb, hq⟩ := h
    obtain ⟨q, rfl, hqg, hqm⟩ := hq.at_ (i := 0) (by omega)
    have c1 := hq.c1
    have a2 := (hq.en (i := 0) (by omega)).2.2.1
    rw [hn] at c1
    simp only [Nat.zero_mul, Nat.zero_add, Nat.reduceAdd] at a2
    have hne : ((0 : Int) != (n : Int)) = true := by simp; omega
    have HSL : Hid ((swapE E 0 n).length = n + 1) := by unfold Hid; rw [swapE_len]; exact hn
    have HN : Hid (E.length = n + 1 ∧ 0 < n) := ⟨hn, by omega⟩
    clear hq hn h0 hl hH
    generalize (atE E 0).handle = ha at *
    go_enter Try.func15, Try.ntmps15
    go_wp2_with fail
    refine HS.out.mono ?_
    rintro e w2 ⟨rfl, ⟨_, ⟨A2, c2', mb2, hq2⟩, rfl⟩, hk2⟩
    obtain ⟨q2, rfl, hq2g, hq2m⟩ := hq2.at_ (i := 0) (by rw [HSL.out]; omega)
    have d1 := hq2.c1
    have f1 := hq2.blk.frozen 1
    have HC := Lib.hid (hq2.cut (n := n) (by rw [HSL.out]; omega))
    have hcap := hq2.own.cap
    rw [HSL.out] at d1 hcap
    have hcap2 : n ≤ c2' := by omega
    have hcap3 : (n : Int) ≤ (c2' : Int) := by omega
    clear hq2 c1 a2
    go_upto_region 5 with (fail)
    refine at_world (F := Code.wp _ _ _ _) (fun W => Hq F W g (some ⟨q2, 0, none⟩) c2' mb2 ((swapE E 0 n).take n) hd tn ∧ Kp F w W) ⟨HC.out.1, hk2.trans HC.out.2⟩ ?_
    rintro w3 ⟨hq3, hk3⟩
    clear d1 f1 HC hk2
    have e2 := hq3.c2
    have HQ3 := Lib.hid hq3
    clear hq3
    go_wp2_with (at_delete; refine wpList_delete_mapI w3 rfl _ _ 34 3 3 rfl Try.underlying34 Try.underlying3 mb2 ha rfl rfl HQ3.out.mp ?_; intro w4 hm4 hg4)
    obtain ⟨hq4, hk4⟩ := HQ3.out.mapped hm4 hg4
    have hTL : ((swapE E 0 n).take n).length = n := by rw [List.length_take, HSL.out]; omega
    refine (down_any F g _ hd tn 0 w4 ⟨_, _, _, hq4⟩ (by rw [hTL]; exact HN.out.2) (by rw [hTL]; omega) HD.out).mono ?_
    rintro e w5 ⟨rfl, ⟨E5, hp5, hperm5, hheap5⟩, hk5⟩
    have hl5 : E5.length = n := by rw [hperm5.length_eq, hTL]
    have HU := Lib.hid (up_any F g E5 hd tn 0 w5 hp5 (by rw [hl5]; exact HN.out.2) (by rw [hl5]; omega) (down_up hheap5))
    have HP5 := Lib.hid hperm5
    have hk6 := ((hk3.trans hk4).trans hk5)
    clear hperm5 hheap5 hp5 hl5 hTL hq4 hk4 hk5 hk3
    go_wp2_with fail
    refine HU.out.mono ?_
    rintro e w6 ⟨rfl, ⟨E6, hp6, hperm6, hheap6⟩, hk7⟩
    go_wp2_with fail
    go_end0
    exact ⟨rfl, ⟨E6, hp6, ((hperm6.trans HP5.out).cons _).trans HTP.out, hheap6⟩, hk6.trans hk7⟩
/-- a store into a block that is none of the heap's -/
theorem Hq.far_set {F : Nat → Prop} {w : World} {g : Nat} {A : Option Addr} {c mb : Nat} {E : List En} {hd tn : Int} (h : Hq F w g A c mb E hd tn) {i : Nat} (hi : F i) (o : Nat) (v : Value) : Hq F (w.setCell ⟨i, o, none⟩ v) g A c mb E hd tn := by
  have hg := only_set (only_refl w i) o v
  have h1 := h.off i hi
  exact ⟨h.blk.grown hg (fun e => h1.2.1 (by injection e with e; exact e.symm)), h.own.kept hg (.inr h1.2.2.2), h.mp.far hg (fun e => h1.2.2.1 e.symm), h.gm, h.ng, h.nm, fun j hj => ⟨Nat.lt_of_lt_of_le (h.off j hj).1 hg.size, (h.off j hj).2⟩⟩
theorem Hp.far_set {F : Nat → Prop} {w : World} {g : Nat} {E : List En} {hd tn : Int} (h : Hp F w g E hd tn) {i : Nat} (hi : F i) (o : Nat) (v : Value) : Hp F (w.setCell ⟨i, o, none⟩ v) g E hd tn := by
  obtain ⟨A, c, mb, h⟩ := h
  exact ⟨A, c, mb, h.far_set hi o v⟩
theorem Kp.far_set {F : Nat → Prop} {a w : World} (h : Kp F a w) {i : Nat} (hi : ∀ j, F j → j < a.heap.size ∧ j ≠ i) (o : Nat) (v : Value) : Kp F a (w.setCell ⟨i, o, none⟩ v) :=
  h.trans (Kp.grown (only_set (only_refl w i) o v) fun j hj => ⟨Nat.lt_of_lt_of_le (hi j hj).1 h.size, fun e => (hi j hj).2 (by injection e)⟩)
def RetPop (F : Nat → Prop) (g : Nat) (hd tn : Int) (x : En) (Q : List En → Prop) (w : World) (e : Ending) (w' : World) : Prop := e = .returned (.tuple #[.agg #[.int .i64 x.key, .int .i64 x.what], .bool true]) ∧ (∃ E', Hp F w' g E' hd tn ∧ Q E') ∧ Kp F w w'
set_option maxRecDepth 100000 in
set_option maxHeartbeats 4000000 in
theorem pop_any (F : Nat → Prop) (g n : Nat) (E : List En) (hd tn : Int) (w : World) (hn : E.length = n + 1) (hl : E.length ≤ 1000) (h : Hp F w g E hd tn) (hH : HeapB E) :
    Calls Try.prog 7 #[.pointer (some ⟨g, 0, none⟩)] w (RetPop F g hd tn (atE E 0) (fun E' => (atE E 0 :: E').Perm E ∧ HeapB E') w) := by
  have HLT := Lib.hid h.lt
  have h1 := h.box (Obj.cells #[.int .i64 0, .int .i64 0] 28)
  have k1 : Kp F w (w.alloc (Obj.cells #[.int .i64 0, .int .i64 0] 28)) := h.kp (below1 w _)
  have HE := Lib.hid (empty_any _ g E hd tn _ h1)
  rw [decide_eq_false (by omega)] at HE
  have hx1 := Blk.new w 28 #[.int .i64 0, .int .i64 0]
  have hK2 : Hid (∀ k x, Hp (fun i => (F i ∨ i = w.heap.size) ∨ i = (w.alloc (Obj.cells #[.int .i64 0, .int .i64 0] 28)).heap.size) ((w.alloc (Obj.cells #[.int .i64 0, .int .i64 0] 28)).alloc (Obj.cells #[.int .i64 k, .int .i64 x] 28)) g E hd tn) := fun k x => h1.box _
  have HN := Lib.hid hn
  have HH := Lib.hid hH
  obtain ⟨A, c, mb, hq⟩ := h1
  obtain ⟨q, rfl, hqg, hqm⟩ := hq.at_ (i := 0) (by omega)
  have c1 := hq.c1
  obtain ⟨a0, a1, a2, a3⟩ := hq.en (i := 0) (by omega)
  rw [hn] at c1
  simp only [Nat.zero_mul, Nat.zero_add] at a0 a1
  clear hq hn hH h a2 a3
  obtain ⟨k, hk⟩ : ∃ k, k = (atE E 0).key := ⟨_, rfl⟩
  obtain ⟨x, hx⟩ : ∃ x, x = (atE E 0).what := ⟨_, rfl⟩
  have HV := Lib.hid (And.intro hk hx)
  rw [← hk] at a0
  rw [← hx] at a1
  clear hk hx
  have hz : (w.alloc (Obj.cells #[.int .i64 0, .int .i64 0] 28)).heap.size = w.heap.size + 1 := by simp
  go_enter Try.func7, Try.ntmps7
  go_wp2_with fail
  refine HE.out.mono ?_
  rintro e w2 ⟨rfl, rfl⟩
  go_wp2_with fail
  have HR := Lib.hid (remove_any _ g n E hd tn _ HN.out hl (hK2.out k x) HH.out)
  have hx2 := hx1.alloc (Obj.cells #[.int .i64 k, .int .i64 x] 28)
  have hx3 := Blk.new' (w.alloc (Obj.cells #[.int .i64 0, .int .i64 0] 28)) 28 #[.int .i64 k, .int .i64 x] hz
  have HF : Hid (((F w.heap.size ∨ w.heap.size = w.heap.size) ∨ w.heap.size = (w.alloc (Obj.cells #[.int .i64 0, .int .i64 0] 28)).heap.size) ∧ ((F (w.heap.size + 1) ∨ w.heap.size + 1 = w.heap.size) ∨ w.heap.size + 1 = (w.alloc (Obj.cells #[.int .i64 0, .int .i64 0] 28)).heap.size)) := ⟨.inl (.inr rfl), .inr hz.symm⟩
  refine HR.out.mono ?_
  rintro e w3 ⟨rfl, ⟨E', hp, hperm, hheap⟩, hk⟩
  have y2 := hk.blk hx2 HF.out.1
  have y3 := hk.blk hx3 HF.out.2
  have p0 := y2.cell 0 _ rfl
  have p1 := y2.cell 1 _ rfl
  have f0 := y2.frozen 0
  have f1 := y2.frozen 1
  have q0 := y3.cell 0 _ rfl
  have q1 := y3.cell 1 _ rfl
  have hks : (w.alloc (Obj.cells #[.int .i64 0, .int .i64 0] 28)).heap.size < w3.heap.size := hp.lt _ (.inr rfl)
  have HK : Hid (Kp F w w3) := k1.trans ((Kp.of_below (below1 _ _) (fun i hi => by have := HLT.out i hi; simp; omega)).trans (hk.mono fun i hi => .inl (.inl hi)))
  have HE2 := Lib.hid (And.intro hperm hheap)
  have HP2 := Lib.hid ((hp.far_set HF.out.1 0 (.int .i64 k)).far_set HF.out.1 1 (.int .i64 x))
  clear hperm hheap hp hk y2 y3 hx1 hx2 hx3 a0 a1 c1 k1 hks
  go_wp2_with fail
  refine bodyPost_ret (v := .tuple #[.agg #[.int .i64 k, .int .i64 x], .bool true]) (by simp [results, Try.results7, go_sem, p0, p1]) rfl ?_
  refine ⟨by rw [HV.out.1, HV.out.2], ⟨E', HP2.out.less (fun i hi => .inl (.inl hi)), HE2.out⟩, (HK.out.far_set (fun j hj => ⟨HLT.out j hj, by have := HLT.out j hj; omega⟩) 0 _).far_set (fun j hj => ⟨HLT.out j hj, by have := HLT.out j hj; omega⟩) 1 _⟩
end Go.Proofs.Ytlkgmedenbfhkaa
