/- The document's board in its box, while vectors are put into it. -/
import Derived.Test.YtdfklbjkcednhaaW17
import Derived.Test.YtdfklbjkcednhaaM6
import Derived.Test.YtdfklbjkcednhaaLast
namespace Go.Proofs.Ytdfklbjkcednhaa
open Go.RowKit Go.Lib

/-- a vector, of whatever length -/
structure Tq (w : World) (t : Td) : Prop where
  sl : Sl eI 1 w t.tA t.tV
  cap : t.tV.length ≤ t.tC
  shape : (t.tA = none ∧ t.tC = 0) ∨ ∃ q o, t.tA = some ⟨q, o, none⟩
  ty : ∀ q, blk t.tA = some q → ∃ cs, Blk w q 3 cs
section
variable {g : Nat} {w w' ws : World} {t : Td}
theorem Tq.keep (h : Tq w t) (hb : Below w.heap.size w w') : Tq w' t := ⟨h.sl.keep hb, h.cap, h.shape, fun q hq => (h.ty q hq).imp fun _ k => k.keep hb⟩
theorem Tq.grown {k : Nat} {cs : Array Value} (h : Tq w t) (hg : w.grownBy w' (some k)) (hk : Blk w k 47 cs) : Tq w' t := by
  have hne : ∀ q, blk t.tA = some q → q ≠ k := fun q hq => by
    obtain ⟨c2, h2⟩ := h.ty q hq
    exact blk_ne h2 hk (by decide)
  exact ⟨h.sl.grown hg (fun r hr e => by injection hr with hr; exact hne r e hr.symm), h.cap, h.shape, fun q hq => (h.ty q hq).imp fun _ k2 => k2.grown hg (fun e => by injection e with e; exact hne q hq e)⟩
theorem Tq.of (h : TdOk w t) : Tq w t := ⟨h.sl, h.cap, h.shape, h.ty⟩
theorem Tq.ok (h : Tq w t) (hl : t.tV.length ≤ 16) : TdOk w t := ⟨h.sl, h.cap, hl, h.shape, h.ty⟩

/-- the board in its box at g, the result's box behind it, those that are over and those that are left -/
structure Q4 (w ws : World) (g : Nat) (R O : Option Addr) (Y X : List Nt) (dR dO : Nat) (ts : List Td) : Prop where
  bx : Blk ws g 47 (eRd ⟨R, Y, dR, ts⟩).toArray
  rs : Blk ws (g + 1) 47 zeroRd
  t8 : ts.length = 8
  tok : ∀ t ∈ ts, Tq ws t
  oR : Own eNt 3 ws (g + 2) 64 R dR Y
  oO : Own eNt 3 ws (g + 2) 64 O dO X
  bel : Below w.heap.size w ws
  hg : w.heap.size = g
variable {R O : Option Addr} {Y X : List Nt} {dR dO e : Nat} {ts : List Td}
theorem Q4.keep (h : Q4 w ws g R O Y X dR dO ts) (hb : Below ws.heap.size ws w') : Q4 w w' g R O Y X dR dO ts :=
  ⟨h.bx.keep hb, h.rs.keep hb, h.t8, fun t ht => (h.tok t ht).keep hb, h.oR.keep hb, h.oO.keep hb, bstep h.bel (Nat.le_refl _) hb, h.hg⟩
theorem Q4.put (h : Q4 w ws g R O Y X dR dO ts) (t : Td) (ht : Tq ws t) (he : e < 8) : Q4 w (ws.setCell ⟨g, 1 + e, none⟩ (eTd t)) g R O Y X dR dO (ts.set e t) := by
  have hG := only_set (only_refl ws g) (1 + e) (eTd t)
  refine ⟨?_, h.rs.far (p := ⟨g, 1 + e, none⟩) (by show g + 1 ≠ g; omega) _, by simp [h.t8], fun u hu => ?_, h.oR.kept hG (h.oR.off' (by omega)), h.oO.kept hG (h.oO.off' (by omega)), h.bel.setCell (p := ⟨g, 1 + e, none⟩) (Nat.le_of_eq h.hg) _, h.hg⟩
  · have := h.bx.set_ (1 + e) (eTd t)
    have hE : (eRd ⟨R, Y, dR, ts⟩).toArray.setIfInBounds (1 + e) (eTd t) = (eRd ⟨R, Y, dR, ts.set e t⟩).toArray := by
      rw [Nat.add_comm 1 e]
      simp [eRd]
    rwa [hE] at this
  · rcases List.mem_or_eq_of_mem_set hu with hu | rfl
    · exact (h.tok u hu).grown hG h.bx
    · exact ht.grown hG h.bx
theorem Q4.cell (h : Q4 w ws g R O Y X dR dO ts) (he : e < ts.length) : ws.cell? ⟨g, 1 + e, none⟩ = some (eTd ts[e]) := by
  refine h.bx.cell (1 + e) _ ?_
  rw [List.getElem?_toArray]
  exact eRd_e (x := ⟨R, Y, dR, ts⟩) he
theorem Q4.start {x : Rd} (hx : RdOk w x) (b0 : Blk ws w.heap.size 47 (eRd x).toArray) (b1 : Blk ws (w.heap.size + 1) 47 zeroRd) (hR : Own eNt 3 ws (w.heap.size + 2) 64 R dR Y) (hO : Own eNt 3 ws (w.heap.size + 2) 64 O dO X) (hB : Below w.heap.size w ws) {b : Nat} (hb : Y.length = b) :
    Q4 w (ws.setCell ⟨w.heap.size, 0, none⟩ (.slice R b dR)) w.heap.size R O Y X dR dO x.rT := by
  subst hb
  have hG := only_set (only_refl ws w.heap.size) 0 (.slice R Y.length dR)
  refine ⟨?_, b1.far (p := ⟨w.heap.size, 0, none⟩) (by show w.heap.size + 1 ≠ w.heap.size; omega) _, hx.t8, fun t ht => (Tq.of ((hx.tok t ht).keep hB)).grown hG b0, hR.kept hG (hR.off' (by omega)), hO.kept hG (hO.off' (by omega)), hB.setCell (p := ⟨w.heap.size, 0, none⟩) (Nat.le_refl _) _, rfl⟩
  have := b0.set_ 0 (.slice R Y.length dR)
  have hE : (eRd x).toArray.setIfInBounds 0 (.slice R Y.length dR) = (eRd ⟨R, Y, dR, x.rT⟩).toArray := by simp [eRd]
  rwa [hE] at this
theorem Q4.fin (h : Q4 w ws g R O Y X dR dO ts) (hl : ∀ t ∈ ts, t.tV.length ≤ 16) {M : List Value} (hM : M = eRd ⟨R, Y, dR, ts⟩) :
    Blk (ws.setCells (g + 1) 0 M) (g + 1) 47 M.toArray ∧ RdOk (ws.setCells (g + 1) 0 M) ⟨R, Y, dR, ts⟩ ∧ Sl eNt 3 (ws.setCells (g + 1) 0 M) O X ∧ (∀ q, blk O = some q → ∃ cs, Blk (ws.setCells (g + 1) 0 M) q 64 cs) ∧ Below w.heap.size w (ws.setCells (g + 1) 0 M) := by
  subst hM
  have hG := grown_setCells (g + 1) (eRd ⟨R, Y, dR, ts⟩) 0 _ _ (only_refl ws (g + 1))
  have hlen : (eRd ⟨R, Y, dR, ts⟩).length = 9 := by simp [eRd, h.t8]
  have hR := h.oR.kept hG (h.oR.off' (by omega))
  have hO := h.oO.kept hG (h.oO.off' (by omega))
  refine ⟨h.rs.fill _ (by rw [hlen]; rfl), ⟨hR.sl eNt_ok, hR.cap, ?_, h.t8, fun t ht => ?_, hR.ty⟩, hO.sl eNt_ok, hO.ty, below_only h.bel hG (by have := h.hg; omega)⟩
  · rcases hR.shape with ⟨h1, _, h3⟩ | h1
    · exact .inl ⟨h1, h3⟩
    · exact .inr h1
  · exact ((h.tok t ht).grown hG h.rs).ok (hl t ht)
end
/-- the first is cut off -/
theorem Tq.cut {q o c : Nat} {w : World} {V : List Int} (h : Tq w ⟨some ⟨q, o, none⟩, V, c⟩) (hc : 1 < V.length) : Tq w ⟨some ⟨q, o + 1, none⟩, V.drop 1, c - 1⟩ := by
  have h1 := h.sl
  simp only at h1
  have h2 := h1.drop (k := 1) hc
  rw [Nat.one_mul] at h2
  have h3 := h.cap
  simp only at h3
  exact ⟨h2, by simp only [List.length_drop]; omega, .inr ⟨_, _, rfl⟩, fun p hp => h.ty p hp⟩
/-- a new vector -/
theorem Tq.new {B c : Nat} {w : World} {A : Option Addr} {V : List Int} (h : Own eI 1 w B 3 A c V) : Tq w ⟨A, V, c⟩ := by
  refine ⟨h.sl eI_ok, h.cap, ?_, h.ty⟩
  rcases h.shape with ⟨h1, _, h3⟩ | ⟨q, h1⟩
  · exact .inl ⟨h1, h3⟩
  · exact .inr ⟨q, 0, h1⟩

/-! what the slots of the region hold that puts a frame to a vector -/
def EmptyI (wb : World) (v : Value) (w : World) : Prop := ∃ G, v = .slice (some ⟨G, 0, none⟩) 0 0 ∧ wb.heap.size ≤ G ∧ Own eI 1 w wb.heap.size 3 (some ⟨G, 0, none⟩) 0 []
def AnewI (wb : World) (m : Nat) (l : List Int) (v : Value) (w : World) : Prop := ∃ A c, v = .slice A m c ∧ Own eI 1 w wb.heap.size 3 A c l
def OneI (y : Int) (v : Value) (w : World) : Prop := ∃ G, v = .slice (some ⟨G, 0, none⟩) 1 1 ∧ Sl eI 1 w (some ⟨G, 0, none⟩) [y]
def VecS (wb : World) (m : Nat) (l : List Int) (y : Int) (d : Nat) (v : Value) (w : World) : Prop := if d = 76 then EmptyI wb v w else if d = 81 then AnewI wb m l v w else OneI y v w
section
variable {wb w w' : World} {m d : Nat} {l : List Int} {y : Int} {v : Value}
theorem vs76 : VecS wb m l y 76 v w ↔ EmptyI wb v w := by simp [VecS]
theorem vs81 : VecS wb m l y 81 v w ↔ AnewI wb m l v w := by simp [VecS]
theorem vs87 : VecS wb m l y 87 v w ↔ OneI y v w := by simp [VecS]
theorem VecS.keep (h : VecS wb m l y d v w) (hz : Keeps w w') : VecS wb m l y d v w' := by
  unfold VecS at *
  by_cases h1 : d = 76
  · simp only [h1, if_true] at h ⊢; obtain ⟨G, h1, h2, h3⟩ := h; exact ⟨G, h1, h2, h3.keep hz⟩
  · by_cases h2 : d = 81
    · simp only [h2] at h ⊢; obtain ⟨A, c, h1, h2⟩ := h; exact ⟨A, c, h1, h2.keep hz⟩
    · simp only [h1, h2, if_false] at h ⊢; obtain ⟨G, h1, h2⟩ := h; exact ⟨G, h1, h2.keep hz⟩
end
theorem putI_len {V : List Int} {f : Int} (h : V.length ≤ 16) : (putI V f).length ≤ 16 := by
  unfold putI
  split <;> simp <;> omega
end Go.Proofs.Ytdfklbjkcednhaa
