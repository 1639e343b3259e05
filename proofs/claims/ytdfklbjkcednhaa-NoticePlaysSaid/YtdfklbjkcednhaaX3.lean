/- Walks: the calls of no board. -/
import Derived.Test.YtdfklbjkcednhaaX2
import Derived.Test.YtdfklbjkcednhaaW18
namespace Go.Proofs.Ytdfklbjkcednhaa
open Go.RowKit Go.Lib

set_option maxHeartbeats 1000000 in
theorem nil_want (w : World) : Calls Try.prog 8 #[.pointer none, .int .i64 0, .int .i64 0, .int .i64 0, .int .i64 1] w fun e w' => e = .returned (.int .i64 3) ∧ Below w.heap.size w w' := by
  go_enter Try.func8, Try.ntmps8
  go_wp2_with fail
  go_ret
  exact ⟨rfl, Below.refl _ _⟩
set_option maxHeartbeats 1000000 in
theorem nil_given (w : World) : Calls Try.prog 6 #[.pointer none, .int .i64 0, .int .i64 0] w fun e w' => e = .returned (.bool false) ∧ Below w.heap.size w w' := by
  go_enter Try.func6, Try.ntmps6
  go_wp2_with fail
  go_ret
  exact ⟨rfl, Below.refl _ _⟩
set_option maxHeartbeats 1000000 in
theorem nil_over (w : World) : Calls Try.prog 7 #[.pointer none, .int .i64 9] w fun e w' => e = .returned (.slice none 0 0) ∧ Below w.heap.size w w' := by
  go_enter Try.func7, Try.ntmps7
  go_wp2_with fail
  go_ret
  exact ⟨rfl, Below.refl _ _⟩
set_option maxHeartbeats 1000000 in
theorem nil_list (w : World) : Calls Try.prog 14 #[.pointer none] w fun e w' => e = .returned (.slice none 0 0) ∧ Below w.heap.size w w' := by
  go_enter Try.func14, Try.ntmps14
  go_wp2_with fail
  go_ret
  exact ⟨rfl, Below.refl _ _⟩
set_option maxHeartbeats 1000000 in
theorem nil_taken (w : World) : Calls Try.prog 15 #[.pointer none, .int .i64 0] w fun e w' => e = .returned (.slice none 0 0) ∧ Below w.heap.size w w' := by
  go_enter Try.func15, Try.ntmps15
  go_wp2_with fail
  go_ret
  exact ⟨rfl, Below.refl _ _⟩
theorem out_taken {g : Nat} (w : World) : Calls Try.prog 15 #[.pointer (some ⟨g, 0, none⟩), .int .i64 (-1)] w fun e w' => e = .returned (.slice none 0 0) ∧ Below w.heap.size w w' :=
  (taken_out (-1) w (by decide)).mono fun _ _ ⟨h, k⟩ => ⟨h, by subst k; exact Below.refl _ _⟩

/-! both boards at once -/
/-- the document's board is as it was behind a call of the program's -/
theorem TdOk.ne {w w' : World} {t : Td} {g c : Nat} {A : Option Addr} {L : List Nt} {VS : List Vc} (h : TdOk w t) (hd : Bd w g A c L VS) (hn : Ne g w w') : TdOk w' t := by
  have key : ∀ q, blk t.tA = some q → w'.heap[q]? = w.heap[q]? := fun q hq => by
    obtain ⟨cs, hb⟩ := h.ty q hq
    exact (hn.blk hb (blk_ne hb hd.b (by decide)) (by decide)).trans hb.symm
  refine ⟨fun h0 => ?_, h.cap, h.len, h.shape, fun q hq => ?_⟩
  · obtain ⟨b, off, hA, hc⟩ := h.sl h0
    refine ⟨b, off, hA, fun i x j u hx hu => ?_⟩
    rw [World.cell?_of_block (w := w) (key b (by rw [hA]; rfl))]
    exact hc i x j u hx hu
  · obtain ⟨cs, hb⟩ := h.ty q hq
    exact ⟨cs, hn.blk hb (blk_ne hb hd.b (by decide)) (by decide)⟩
theorem RdOk.ne {w w' : World} {x : Rd} {g c : Nat} {A : Option Addr} {L : List Nt} {VS : List Vc} (h : RdOk w x) (hd : Bd w g A c L VS) (hn : Ne g w w') : RdOk w' x := by
  have key : ∀ q, blk x.rA = some q → w'.heap[q]? = w.heap[q]? := fun q hq => by
    obtain ⟨cs, hb⟩ := h.ty q hq
    exact (hn.blk hb (blk_ne hb hd.b (by decide)) (by decide)).trans hb.symm
  refine ⟨fun h0 => ?_, h.cap, h.shape, h.t8, fun t ht => (h.tok t ht).ne hd hn, fun q hq => ?_⟩
  · obtain ⟨b, off, hA, hc⟩ := h.sl h0
    refine ⟨b, off, hA, fun i x j u hx hu => ?_⟩
    rw [World.cell?_of_block (w := w) (key b (by rw [hA]; rfl))]
    exact hc i x j u hx hu
  · obtain ⟨cs, hb⟩ := h.ty q hq
    exact ⟨cs, hn.blk hb (blk_ne hb hd.b (by decide)) (by decide)⟩
theorem Sl.ne {w w' : World} {O : Option Addr} {T : List Nt} {g c : Nat} {A : Option Addr} {L : List Nt} {VS : List Vc} (h : Sl eNt 3 w O T) (ht : ∀ q, blk O = some q → ∃ cs, Blk w q 64 cs) (hd : Bd w g A c L VS) (hn : Ne g w w') : Sl eNt 3 w' O T := fun h0 => by
  obtain ⟨b, off, hA, hc⟩ := h h0
  refine ⟨b, off, hA, fun i x j u hx hu => ?_⟩
  obtain ⟨cs, hb⟩ := ht b (by rw [hA]; rfl)
  rw [World.cell?_of_block (w := w) ((hn.blk hb (blk_ne hb hd.b (by decide)) (by decide)).trans hb.symm)]
  exact hc i x j u hx hu
/-- what both sides hold -/
structure Two (w : World) (g h : Nat) (L : List Nt) : Prop where
  ex : ∃ A c VS x, Bd w g A c L VS ∧ Blk w h 47 (eRd x).toArray ∧ RdOk w x ∧ x.rL = L ∧ x.rT.map Td.tV = VS.map cntV
  en : ∀ y ∈ L, 0 ≤ y.nEnv ∧ y.nEnv < 8
def x0 : Rd := ⟨none, [], 0, List.replicate 8 ⟨none, [], 0⟩⟩
theorem x0_ok (w : World) : RdOk w x0 := ⟨Sl.nil _ _, Nat.le_refl _, .inl ⟨rfl, rfl⟩, rfl, fun t ht => by
  rw [List.eq_of_mem_replicate ht]
  exact ⟨Sl.nil _ _, Nat.le_refl _, Nat.zero_le _, .inl ⟨rfl, rfl⟩, fun q hq => by cases hq⟩, fun q hq => by cases hq⟩
theorem x0_rd : (eRd x0).toArray = zeroRd := rfl
theorem x0_vs : x0.rT.map Td.tV = VS0.map cntV := rfl
/-- the list that is over, and the list that is left, are the same on both sides -/
theorem ov_same {L T X : List Nt} {now : Int} (h1 : Srt T) (h2 : T.Perm (retag 0 (L.filter fun x => decide (x.nTil ≤ now)))) (h3 : Ov (ovF L now L.length) X) : T = X := by
  refine srt_unique h1 h3.s (h2.trans ?_)
  have := h3.p
  unfold ovF at this
  rw [List.take_length] at this
  exact this.symm
theorem ov_left (L : List Nt) (now : Int) : ovL L now L.length = L.filter fun x => decide (now < x.nTil) := by unfold ovL; rw [List.take_length]
end Go.Proofs.Ytdfklbjkcednhaa
