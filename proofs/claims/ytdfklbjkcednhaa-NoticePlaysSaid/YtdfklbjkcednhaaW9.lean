/- Walks: the place of a notice, Want and Given. -/
import Derived.Test.YtdfklbjkcednhaaW8
namespace Go.Proofs.Ytdfklbjkcednhaa
open Go.RowKit Go.Lib

/-- a vector: its sixteen places, and how many of them count -/
structure Vc where
  vF : List Int
  vS : Nat
def vcC (v : Vc) : List Value := v.vF.map (Value.int .i64 ·) ++ [.int .i64 v.vS]
def bdC (A : Option Addr) (n c : Nat) (VS : List Vc) : List Value := .slice A n c :: VS.flatMap vcC
/-- a board in block g, its notices in a row behind it -/
structure Bd (w : World) (g : Nat) (A : Option Addr) (c : Nat) (L : List Nt) (VS : List Vc) : Prop where
  b : Blk w g 31 (bdC A L.length c VS).toArray
  o : Own eNt 3 w (g + 1) 39 A c L
  v8 : VS.length = 8
  ok : ∀ v ∈ VS, v.vF.length = 16 ∧ v.vS ≤ 16
/-- what lies below a board stays, and what is no row of notices, but the board -/
structure Ne (g : Nat) (w w' : World) : Prop where
  b : Below g w w'
  k : Kp (fun b => b ≠ g ∧ ∃ t cs, Blk w b t cs ∧ t ≠ 39) w w'
theorem Own.ty {α : Type} {enc : α → List Value} {sz : Nat} {w : World} {B c : Nat} {e : TypeId} {A : Option Addr} {xs : List α} (h : Own enc sz w B e A c xs) : ∀ q, blk A = some q → ∃ cs, Blk w q e cs := fun q hq => by
  rcases h.2 with ⟨hv, _⟩ | ⟨g, cap, cur, hv, h2, h3, _⟩
  · injection hv with hv; rw [hv] at hq; cases hq
  · injection hv with hv; rw [hv] at hq; injection hq with hq; subst hq; exact ⟨cur, h3⟩
theorem blk_ne {w : World} {p q : Nat} {t t' : TypeId} {cs cs' : Array Value} (h : Blk w p t cs) (h' : Blk w q t' cs') (ht : t ≠ t') : p ≠ q := fun e => by
  subst e
  unfold Blk at h h'
  rw [h] at h'
  injection h' with h'
  injection h' with _ h2
  exact ht h2
section
variable {g c : Nat} {w w' w'' : World} {A : Option Addr} {L : List Nt} {VS : List Vc}
theorem Ne.refl (g : Nat) (w : World) : Ne g w w := ⟨Below.refl _ _, Kp.refl _ _⟩
theorem Ne.trans (h : Ne g w w') (k : Ne g w' w'') : Ne g w w'' := ⟨h.b.trans k.b, Kp.trans h.k (k.k.mono fun b ⟨h1, t, cs, h2, h3⟩ => ⟨h1, t, cs, h.k.blk h2 ⟨h1, t, cs, h2, h3⟩, h3⟩)⟩
theorem Ne.keep (hg : g ≤ w.heap.size) (h : Below w.heap.size w w') : Ne g w w' := ⟨h.mono hg, Kp.of_below h fun b ⟨_, t, cs, h2, _⟩ => h2.lt⟩
theorem Ne.below (h : Ne g w w') (hg : g ≤ w.heap.size) (k : Below w'.heap.size w' w'') : Ne g w w'' := h.trans (Ne.keep (Nat.le_trans hg h.b.size) k)
theorem Ne.blk (h : Ne g w w') {b : Nat} {t : TypeId} {cs : Array Value} (hb : Blk w b t cs) (hg : b ≠ g) (ht : t ≠ 39) : Blk w' b t cs := h.k.blk hb ⟨hg, t, cs, hb, ht⟩
/-- a row of notices was turned -/
theorem Ne.row {r : Option Nat} (hg : w.grownBy w' r) (hr : ∀ q, r = some q → g ≤ q ∧ ∃ cs, Blk w q 39 cs) (hw : g ≤ w.heap.size) : Ne g w w' := by
  refine ⟨bgrow' hg hr hw, Kp.grown hg fun b ⟨_, t, cs, h2, h3⟩ => ⟨h2.lt, fun e => ?_⟩⟩
  obtain ⟨_, cs', h4⟩ := hr b e.symm
  exact blk_ne h2 h4 h3 rfl
where
  bgrow' {r : Option Nat} (hg : w.grownBy w' r) (hr : ∀ q, r = some q → g ≤ q ∧ ∃ cs, Blk w q 39 cs) (hw : g ≤ w.heap.size) : Below g w w' :=
    ⟨hg.os, hg.tape, hg.output, hg.size, fun i hi => hg.block i (Nat.lt_of_lt_of_le hi hw) fun e => by have := (hr i e.symm).1; omega⟩
theorem Ne.self (hg : w.grownBy w' (some g)) (hw : g < w.heap.size) : Ne g w w' :=
  ⟨⟨hg.os, hg.tape, hg.output, hg.size, fun i hi => hg.block i (by omega) fun e => by injection e with e; omega⟩, Kp.grown hg fun b ⟨h1, t, cs, h2, h3⟩ => ⟨h2.lt, fun e => h1 (by injection e)⟩⟩
theorem Bd.lt (h : Bd w g A c L VS) : g < w.heap.size := h.b.lt
theorem Bd.keep (h : Bd w g A c L VS) (hb : Below w.heap.size w w') : Bd w' g A c L VS := ⟨h.b.keep hb, h.o.keep hb, h.v8, h.ok⟩
theorem Bd.c0 (h : Bd w g A c L VS) : w.cell? ⟨g, 0, none⟩ = some (.slice A L.length c) := h.b.cell 0 _ (by simp [bdC])
theorem Bd.ne (h : Bd w g A c L VS) : ∀ q, blk A = some q → q ≠ g := fun q hq => by
  have := (h.o.lt q hq).1
  omega
/-- another slice of notices is stored -/
theorem Bd.store {A' : Option Addr} {c' : Nat} {L' : List Nt} {w1 : World} (hb : Blk w1 g 31 (bdC A L.length c VS).toArray) (ho : Own eNt 3 w1 (g + 1) 39 A' c' L') (h8 : VS.length = 8) (hok : ∀ v ∈ VS, v.vF.length = 16 ∧ v.vS ≤ 16) : Bd (w1.setCell ⟨g, 0, none⟩ (.slice A' L'.length c')) g A' c' L' VS := by
  refine ⟨?_, ho.kept (only_set (only_refl w1 g) 0 _) ?_, h8, hok⟩
  · have := hb.set_ 0 (.slice A' L'.length c')
    simpa [bdC] using this
  · cases hb : blk A' with
    | none => exact .inl rfl
    | some q => right; intro e; injection e with e; have := (ho.lt q hb).1; omega
end

set_option maxHeartbeats 1000000 in
theorem place_any {g c : Nat} {A : Option Addr} {L : List Nt} {VS : List Vc} (env frm : Int) (w : World) (h : Bd w g A c L VS) (hl : L.length ≤ 1000) :
    Calls Try.prog 16 #[.pointer (some ⟨g, 0, none⟩), .int .i64 env, .int .i64 frm] w fun e w' => e = .returned (.int .i64 (plcN L env frm)) ∧ Below w.heap.size w w' := by
  have hB0 : Below w.heap.size w ((w.alloc (Obj.cells #[.int .i64 env] 3)).alloc (Obj.cells #[.int .i64 frm] 3)) := (below1 _ _).alloc (by simp) _
  have b1 := (Blk.new w 3 #[.int .i64 env]).alloc (Obj.cells #[.int .i64 frm] 3)
  have b2 := Blk.new' (w.alloc (Obj.cells #[.int .i64 env] 3)) 3 #[.int .i64 frm] (g := w.heap.size + 1) (by simp)
  have h1 := h.keep hB0
  have c0 := h1.c0
  have hI := Lib.hid (index_any A L c env frm w.heap.size (w.heap.size + 1) _ (h1.o.sl eNt_ok) hl (b1.cell 0 _ rfl) (b2.cell 0 _ rfl))
  clear h h1 b1 b2
  go_enter Try.func16, Try.ntmps16
  go_wp2_with fail
  with_reducible refine hI.out.mono ?_
  rintro e w2 ⟨rfl, hb⟩
  go_wp2_with fail
  go_ret
  exact ⟨rfl, bstep hB0 (Nat.le_refl _) hb⟩

/-- a method that leaves a board with other notices -/
def RetBd (g : Nat) (L : List Nt) (VS : List Vc) (v : Value) (w : World) (e : Ending) (w' : World) : Prop := ∃ (A' : Option Addr) (c' : Nat), e = .returned v ∧ Bd w' g A' c' L VS ∧ Ne g w w'
def wantOk (e f n k : Int) : Prop := (0 ≤ e ∧ e < 8) ∧ (0 ≤ f ∧ f < 32) ∧ (0 ≤ n ∧ n ≤ 1048576) ∧ (1 ≤ k ∧ k ≤ 65536)
instance (e f n k : Int) : Decidable (wantOk e f n k) := by unfold wantOk; infer_instance
set_option maxRecDepth 100000 in
set_option maxHeartbeats 4000000 in
theorem want_bad {g : Nat} (env frm now k : Int) (w : World) (h : ¬ wantOk env frm now k) :
    Calls Try.prog 8 #[.pointer (some ⟨g, 0, none⟩), .int .i64 env, .int .i64 frm, .int .i64 now, .int .i64 k] w fun e w' => e = .returned (.int .i64 1) ∧ w = w' := by
  have HW := Lib.hid h
  clear h
  by_cases e1 : env < 0
  · go_enter Try.func8, Try.ntmps8
    go_wp2_with fail
    go_ret
    exact ⟨rfl, rfl⟩
  by_cases e2 : 8 ≤ env
  · go_enter Try.func8, Try.ntmps8
    go_wp2_with fail
    go_ret
    exact ⟨rfl, rfl⟩
  by_cases e3 : frm < 0
  · go_enter Try.func8, Try.ntmps8
    go_wp2_with fail
    go_ret
    exact ⟨rfl, rfl⟩
  by_cases e4 : 32 ≤ frm
  · go_enter Try.func8, Try.ntmps8
    go_wp2_with fail
    go_ret
    exact ⟨rfl, rfl⟩
  by_cases e5 : now < 0
  · go_enter Try.func8, Try.ntmps8
    go_wp2_with fail
    go_ret
    exact ⟨rfl, rfl⟩
  by_cases e6 : 1048576 < now
  · go_enter Try.func8, Try.ntmps8
    go_wp2_with fail
    go_ret
    exact ⟨rfl, rfl⟩
  by_cases e7 : k < 1
  · go_enter Try.func8, Try.ntmps8
    go_wp2_with fail
    go_ret
    exact ⟨rfl, rfl⟩
  by_cases e8 : 65536 < k
  · go_enter Try.func8, Try.ntmps8
    go_wp2_with fail
    go_ret
    exact ⟨rfl, rfl⟩
  exact absurd (by unfold wantOk; omega) HW.out
set_option maxRecDepth 100000 in
set_option maxHeartbeats 4000000 in
theorem want_ok {g c : Nat} {A : Option Addr} {L : List Nt} {VS : List Vc} (env frm now k : Int) (w : World) (hd : Bd w g A c L VS) (hl : L.length ≤ 500) (h : wantOk env frm now k) :
    Calls Try.prog 8 #[.pointer (some ⟨g, 0, none⟩), .int .i64 env, .int .i64 frm, .int .i64 now, .int .i64 k] w (RetBd g (if 0 ≤ plcN L env frm then L else L ++ [⟨env, frm, now + k, 0⟩]) VS (.int .i64 (if 0 ≤ plcN L env frm then 7 else 0)) w) := by
  obtain ⟨⟨e1, e2⟩, ⟨e3, e4⟩, ⟨e5, e6⟩, ⟨e7, e8⟩⟩ := h
  have n1 : ¬ env < 0 := by omega
  have n3 : ¬ frm < 0 := by omega
  have n5 : ¬ now < 0 := by omega
  have n7 : ¬ k < 1 := by omega
  have hP := Lib.hid (place_any env frm w hd (by omega))
  obtain ⟨pl, hpl⟩ : ∃ pl, plcN L env frm = pl := ⟨_, rfl⟩
  rw [hpl] at hP ⊢
  have HD := Lib.hid hd
  have hgs := hd.lt
  clear hd hpl
  by_cases hp : 0 ≤ pl
  · go_enter Try.func8, Try.ntmps8
    go_wp2_with fail
    with_reducible refine hP.out.mono ?_
    rintro e w2 ⟨rfl, hb⟩
    go_wp2_with fail
    go_ret
    exact ⟨A, c, rfl, HD.out.keep hb, Ne.keep (Nat.le_of_lt hgs) hb⟩
  · go_enter Try.func8, Try.ntmps8
    go_wp2_with fail
    with_reducible refine hP.out.mono ?_
    rintro e w2 ⟨rfl, hb⟩
    have hd2 := HD.out.keep hb
    have hn2 := Ne.keep (Nat.le_of_lt hgs) hb
    have c0 := hd2.c0
    have hgs2 := hd2.lt
    have HD2 := Lib.hid (And.intro hd2 hn2)
    clear hd2 hn2 hP HD hb
    go_wp2_with (at_builtin; refine wpList_append_sl _ rfl _ _ rfl elNt eNt_ok (HD2.out.1.o.alloc _) (n := L.length) rfl rfl (m := 1) rfl (ys := [⟨env, frm, now + k, 0⟩]) rfl (Sl.new eNt_ok w2 ⟨env, frm, now + k, 0⟩ _ rfl _) (by simp only [maxLen]; omega) (by omega) (by simp; omega) _ rfl (L.length + 1) rfl ?_; intro A5 c5 w6 own6 hg6 at6; (have hb6 : Blk w6 g 31 (bdC A L.length c VS).toArray := (HD2.out.1.b.alloc _).grown hg6 (fun e => HD2.out.1.ne g e.symm rfl)); (have f0 := hb6.frozen 0); (have d0 : w6.cell? ⟨g, 0, none⟩ = some (.slice A L.length c) := hb6.cell 0 _ (by simp [bdC])); (have hl6 := hb6.lt); (have HW := Lib.hid (And.intro own6 (And.intro hg6 (And.intro at6 hb6)))); clear own6 hg6 at6 hb6)
    go_ret
    refine ⟨A5, c5, rfl, ?_, ?_⟩
    · have := Bd.store HW.out.2.2.2 HW.out.1 HD2.out.1.v8 HD2.out.1.ok
      simpa using this
    · have h1 := HD2.out.2.trans (Ne.keep (Nat.le_of_lt hgs2) (below1 w2 (Obj.cells #[.int .i64 env, .int .i64 frm, .int .i64 (now + k)] 39)))
      have h2 := Ne.row (g := g) HW.out.2.1 (fun q hq => by
        have := (HD2.out.1.o.lt q hq).1
        obtain ⟨cs, hc⟩ := HD2.out.1.o.ty q hq
        exact ⟨by omega, cs, hc.alloc _⟩) (by simp; omega)
      exact (h1.trans h2).trans (Ne.self (only_set (only_refl _ g) 0 _) hl6)

set_option maxRecDepth 100000 in
set_option maxHeartbeats 4000000 in
theorem given_any {g c : Nat} {A : Option Addr} {L : List Nt} {VS : List Vc} (env frm : Int) (w : World) (hd : Bd w g A c L VS) (hl : L.length ≤ 500) :
    Calls Try.prog 6 #[.pointer (some ⟨g, 0, none⟩), .int .i64 env, .int .i64 frm] w fun e w' =>
      e = .returned (.bool (fiN L env frm).isSome) ∧ Bd w' g A c (match fiN L env frm with | some i => L.eraseIdx i | none => L) VS ∧ Ne g w w' := by
  have hP := place_any env frm w hd (by omega)
  have HD := Lib.hid hd
  have hgs := hd.lt
  clear hd
  cases hf : fiN L env frm with
  | none =>
    have hp : plcN L env frm = -1 := by unfold plcN; rw [hf]
    rw [hp] at hP
    have HP := Lib.hid hP
    clear hP hp hf
    go_enter Try.func6, Try.ntmps6
    go_wp2_with fail
    with_reducible refine HP.out.mono ?_
    rintro e w2 ⟨rfl, hb⟩
    go_wp2_with fail
    go_ret
    exact ⟨rfl, HD.out.keep hb, Ne.keep (Nat.le_of_lt hgs) hb⟩
  | some i =>
    have hp : plcN L env frm = (i : Int) := by unfold plcN; rw [hf]
    have hi : i < L.length := (List.findIdx?_eq_some_iff_getElem.1 hf).1
    rw [hp] at hP
    have HP := Lib.hid hP
    clear hP hp hf
    obtain ⟨q, rfl⟩ : ∃ q, A = some ⟨q, 0, none⟩ := by
      rcases HD.out.o.shape with ⟨_, h, _⟩ | h
      · rw [h] at hi; simp at hi
      · exact h
    obtain ⟨k, hk⟩ : ∃ k, L.length = i + 1 + k := ⟨L.length - (i + 1), by omega⟩
    have HK := Lib.hid hk
    clear hk
    go_enter Try.func6, Try.ntmps6
    go_wp2_with fail
    with_reducible refine HP.out.mono ?_
    rintro e w2 ⟨rfl, hb⟩
    have hd2 := HD.out.keep hb
    have hn2 := Ne.keep (Nat.le_of_lt hgs) hb
    have c0 := hd2.c0
    have HDel := Lib.hid (del_any q c i k (g + 1) L w2 hd2.o HK.out (by omega))
    have HD2 := Lib.hid (And.intro hd2 hn2)
    have hgs2 := hd2.lt
    clear hd2 hn2 HP HD hb
    go_wp2_with fail
    with_reducible refine HDel.out.mono ?_
    rintro e w3 ⟨rfl, ho3, hg3⟩
    have hb3 : Blk w3 g 31 (bdC (some ⟨q, 0, none⟩) L.length c VS).toArray := HD2.out.1.b.grown hg3 (fun e => HD2.out.1.ne q rfl (by injection e with e; exact e.symm))
    have f0 := hb3.frozen 0
    have d0 : w3.cell? ⟨g, 0, none⟩ = some (.slice (some ⟨q, 0, none⟩) L.length c) := hb3.cell 0 _ (by simp [bdC])
    have hl3 := hb3.lt
    have HW := Lib.hid (And.intro ho3 (And.intro hg3 hb3))
    clear ho3 hg3 hb3 c0 HDel
    go_wp2_with fail
    go_ret
    refine ⟨rfl, Bd.store HW.out.2.2 HW.out.1 HD2.out.1.v8 HD2.out.1.ok, ?_⟩
    have h2 := Ne.row (g := g) HW.out.2.1 (fun q' hq => by
      injection hq with hq
      subst hq
      have := (HD2.out.1.o.lt q rfl).1
      obtain ⟨cs, hc⟩ := HD2.out.1.o.ty q rfl
      exact ⟨by omega, cs, hc⟩) (by omega)
    exact (HD2.out.2.trans h2).trans (Ne.self (only_set (only_refl _ g) 0 _) hl3)
end Go.Proofs.Ytdfklbjkcednhaa
