/- Words for rows of upcalls in memory: eight slices and numbers in one block. -/
import Derived.Test.YtciijdajdmcllaaDel
import Derived.Test.YtciijdajdmcllaaM1
namespace Go.Proofs.Ytciijdajdmcllaa
open Go.RowKit Go.Lib

def eP (u : Up) : List Value := [.int .i64 u.kind, .int .i64 u.a, .int .u64 u.b]
theorem eP_ok : EncOk eP 3 := ⟨fun _ => rfl, fun x u hu => by simp [eP] at hu; rcases hu with rfl | rfl | rfl <;> rfl⟩
theorem info_up : (Try.prog.info? 38).map (fun i => (i.zero, i.size, i.bytes)) = some (some (.agg #[.int .i64 0, .int .i64 0, .int .u64 0]), 3, 24) := by kernel_rfl
theorem elP : Elem Try.prog 25 38 3 24 := elem_mk Try.underlying25 info_up rfl (by omega)
theorem Sl.up_at {w : World} {A : Option Addr} {xs : List Up} {i : Nat} (h : Sl eP 3 w A xs) (hi : i < xs.length) :
    ∃ b off, A = some ⟨b, off, none⟩ ∧ w.cell? ⟨b, off + i * 3, none⟩ = some (.int .i64 xs[i].kind) ∧ w.cell? ⟨b, off + i * 3 + 1, none⟩ = some (.int .i64 xs[i].a) ∧ w.cell? ⟨b, off + i * 3 + 1 + 1, none⟩ = some (.int .u64 xs[i].b) := by
  obtain ⟨b, off, hA, hc⟩ := h.at_ hi
  refine ⟨b, off, hA, ?_, ?_, ?_⟩
  · simpa using hc 0 _ (show (eP xs[i])[0]? = some (.int .i64 xs[i].kind) from rfl)
  · simpa [Nat.add_assoc] using hc 1 _ (show (eP xs[i])[1]? = some (.int .i64 xs[i].a) from rfl)
  · simpa [Nat.add_assoc] using hc 2 _ (show (eP xs[i])[2]? = some (.int .u64 xs[i].b) from rfl)
theorem own_up {w : World} {base : Nat} {e : TypeId} {b c : Nat} {L : List Up} (h : Own eP 3 w base e (some ⟨b, 0, none⟩) c L) {i : Nat} (hi : i < L.length) :
    w.cell? ⟨b, i * 3, none⟩ = some (.int .i64 L[i].kind) ∧ w.cell? ⟨b, i * 3 + 1, none⟩ = some (.int .i64 L[i].a) ∧ w.cell? ⟨b, i * 3 + 1 + 1, none⟩ = some (.int .u64 L[i].b) := by
  obtain ⟨b', off, hA, y0, y1, y2⟩ := (h.sl eP_ok).up_at hi
  injection hA with hA
  injection hA with h1 h2
  subst h1 h2
  simp only [Nat.zero_add] at y0 y1 y2
  exact ⟨y0, y1, y2⟩

structure RwS where
  A : Option Addr
  c : Nat
  L : List Up
  lost : Int
def rowC (r : RwS) : List Value := [.slice r.A r.L.length r.c, .int .i64 r.lost]
theorem rowC_len (r : RwS) : (rowC r).length = 2 := rfl
def ctOf (r : RwS) : Ct := ⟨r.L, r.lost⟩
structure Rws (w : World) (g : Nat) (R : List RwS) : Prop where
  len : R.length = 8
  at_ : Blk w g 30 (R.flatMap rowC).toArray
  own : ∀ i, (hi : i < R.length) → Own eP 3 w (g + 1) 38 R[i].A R[i].c R[i].L
  dis : ∀ i j, (hi : i < R.length) → (hj : j < R.length) → i ≠ j → blk R[i].A = none ∨ blk R[i].A ≠ blk R[j].A

theorem set_row (R : List RwS) (i : Nat) (hi : i < R.length) (A : Option Addr) (c : Nat) (L : List Up) : ((R.flatMap rowC).toArray).setIfInBounds (i * 2) (.slice A L.length c) = ((R.set i ⟨A, c, L, R[i].lost⟩).flatMap rowC).toArray := by
  rw [List.setIfInBounds_toArray]
  congr 1
  induction R generalizing i with
  | nil => simp at hi
  | cons r R ih =>
    cases i with
    | zero => simp [rowC]
    | succ i =>
      simp only [List.flatMap_cons, List.set_cons_succ, List.getElem_cons_succ]
      rw [List.set_append_right _ _ (by rw [rowC_len]; omega), rowC_len, show (i + 1) * 2 - 2 = i * 2 by omega, ih i (by simpa using hi)]
theorem set_lost (R : List RwS) (i : Nat) (hi : i < R.length) (v : Int) : ((R.flatMap rowC).toArray).setIfInBounds (i * 2 + 1) (.int .i64 v) = ((R.set i ⟨R[i].A, R[i].c, R[i].L, v⟩).flatMap rowC).toArray := by
  rw [List.setIfInBounds_toArray]
  congr 1
  induction R generalizing i with
  | nil => simp at hi
  | cons r R ih =>
    cases i with
    | zero => simp [rowC]
    | succ i =>
      simp only [List.flatMap_cons, List.set_cons_succ, List.getElem_cons_succ]
      rw [List.set_append_right _ _ (by rw [rowC_len]; omega), rowC_len, show (i + 1) * 2 + 1 - 2 = i * 2 + 1 by omega, ih i (by simpa using hi)]

section
variable {w w' : World} {g : Nat} {R : List RwS}
theorem Rws.keep (h : Rws w g R) (hb : Below w.heap.size w w') : Rws w' g R := ⟨h.len, h.at_.keep hb, fun i hi => (h.own i hi).keep hb, h.dis⟩
theorem Rws.drew (h : Rws w g R) : Rws w.drew g R := ⟨h.len, h.at_, h.own, h.dis⟩
theorem Rws.cells (h : Rws w g R) {i : Nat} (hi : i < R.length) : w.cell? ⟨g, i * 2, none⟩ = some (.slice R[i].A R[i].L.length R[i].c) ∧ w.cell? ⟨g, i * 2 + 1, none⟩ = some (.int .i64 R[i].lost) := by
  refine ⟨h.at_.cell _ _ ?_, h.at_.cell _ _ ?_⟩
  · rw [List.getElem?_toArray]
    exact (flat_at rowC_len R i R[i] 0 (List.getElem?_eq_getElem hi) (by omega)).trans rfl
  · rw [List.getElem?_toArray]
    exact (flat_at rowC_len R i R[i] 1 (List.getElem?_eq_getElem hi) (by omega)).trans rfl
theorem Rws.lt (h : Rws w g R) {i : Nat} (hi : i < R.length) : ∀ q, blk R[i].A = some q → g < q ∧ q < w.heap.size := fun q hq => by
  have := (h.own i hi).lt q hq
  omega
theorem far_own {A : Option Addr} {c : Nat} {L : List Up} (ho : Own eP 3 w (g + 1) 38 A c L) (o : Nat) (u : Value) : Own eP 3 (w.setCell ⟨g, o, none⟩ u) (g + 1) 38 A c L := by
  refine ho.kept (only_set (only_refl w g) o u) ?_
  cases e : blk A with
  | none => exact .inl rfl
  | some q => exact .inr (fun e2 => by injection e2 with e2; have := (ho.lt q e).1; omega)
/-- a row turned -/
theorem Rws.put (h : Rws w g R) {i : Nat} (hi : i < R.length) (hg : w.grownBy w' (blk R[i].A)) {A : Option Addr} {c : Nat} {L : List Up} (ho : Own eP 3 w' (g + 1) 38 A c L)
    (hA : blk A = blk R[i].A ∨ blk A = none ∨ ∃ q, blk A = some q ∧ w.heap.size ≤ q) : Rws (w'.setCell ⟨g, i * 2, none⟩ (.slice A L.length c)) g (R.set i ⟨A, c, L, R[i].lost⟩) := by
  have hne : some g ≠ blk R[i].A := fun e => by have := h.lt hi g e.symm; omega
  refine ⟨by rw [List.length_set]; exact h.len, ?_, fun j hj => ?_, fun j k hj hk hjk => ?_⟩
  · have := (h.at_.grown hg hne).set_ (i * 2) (.slice A L.length c)
    rw [set_row R i hi] at this
    exact this
  · rw [List.length_set] at hj
    rw [List.getElem_set]
    split
    · exact far_own ho _ _
    · rename_i hij
      exact far_own ((h.own j hj).kept hg (h.dis j i hj hi (by omega))) _ _
  · rw [List.length_set] at hj hk
    rw [List.getElem_set, List.getElem_set]
    have key : ∀ j, (hj : j < R.length) → j ≠ i → blk A = none ∨ blk A ≠ blk R[j].A := fun j hj hne => by
      rcases hA with e | e | ⟨q, e, hq⟩
      · rw [e]; exact h.dis i j hi hj (by omega)
      · exact .inl e
      · right; rw [e]; intro e2; have := h.lt hj q e2.symm; omega
    split
    · rename_i hij
      split
      · omega
      · exact key k hk (by omega)
    · rename_i hij
      split
      · rcases key j hj (by omega) with e | e
        · by_cases e2 : blk R[j].A = none
          · exact .inl e2
          · right; simp only; rw [e]; exact e2
        · exact .inr (Ne.symm e)
      · exact h.dis j k hj hk hjk
theorem Rws.lose (h : Rws w g R) {i : Nat} (hi : i < R.length) (v : Int) : Rws (w.setCell ⟨g, i * 2 + 1, none⟩ (.int .i64 v)) g (R.set i ⟨R[i].A, R[i].c, R[i].L, v⟩) := by
  refine ⟨by rw [List.length_set]; exact h.len, ?_, fun j hj => ?_, fun j k hj hk hjk => ?_⟩
  · have := h.at_.set_ (i * 2 + 1) (.int .i64 v)
    rw [set_lost R i hi] at this
    exact this
  · rw [List.length_set] at hj
    rw [List.getElem_set]
    split
    · exact far_own (h.own i hi) _ _
    · exact far_own (h.own j hj) _ _
  · rw [List.length_set] at hj hk
    rw [List.getElem_set, List.getElem_set]
    split
    · rename_i hij; subst hij
      split
      · omega
      · exact h.dis i k hj hk hjk
    · split
      · rename_i hik; subst hik
        exact h.dis j i hj hk hjk
      · exact h.dis j k hj hk hjk
theorem ct_set (R : List RwS) (i : Nat) (r : RwS) : (R.set i r).map ctOf = (R.map ctOf).set i (ctOf r) := by rw [List.map_set]
end

/-- rows that hold these -/
def Rs (w : World) (g : Nat) (C : List Ct) : Prop := ∃ R, Rws w g R ∧ R.map ctOf = C
theorem Rs.keep {w w' : World} {g : Nat} {C : List Ct} (h : Rs w g C) (hb : Below w.heap.size w w') : Rs w' g C := by
  obtain ⟨R, h1, h2⟩ := h
  exact ⟨R, h1.keep hb, h2⟩
theorem Rs.lt {w : World} {g : Nat} {C : List Ct} (h : Rs w g C) : g < w.heap.size := by
  obtain ⟨R, h1, h2⟩ := h
  exact h1.at_.lt
/-- a store of a whole upcall into a row -/
theorem flat_set3 (L : List Up) (k : Nat) (hk : k < L.length) (u : Up) : (((L.flatMap eP).set (k * 3) (.int .i64 u.kind)).set (k * 3 + 1) (.int .i64 u.a)).set (k * 3 + 1 + 1) (.int .u64 u.b) = (L.set k u).flatMap eP := by
  induction L generalizing k with
  | nil => simp at hk
  | cons x L ih =>
    cases k with
    | zero => simp [eP]
    | succ k =>
      have e3 : (eP x).length = 3 := rfl
      simp only [List.flatMap_cons, List.set_cons_succ]
      rw [List.set_append_right _ _ (by rw [e3]; omega), List.set_append_right _ _ (by rw [e3]; omega), List.set_append_right _ _ (by rw [e3]; omega), e3, show (k + 1) * 3 - 3 = k * 3 by omega, show (k + 1) * 3 + 1 - 3 = k * 3 + 1 by omega, show (k + 1) * 3 + 1 + 1 - 3 = k * 3 + 1 + 1 by omega, ih k (by simpa using hk)]
def put3 (w : World) (q o : Nat) (u : Up) : World := ((w.setCell ⟨q, o, none⟩ (.int .i64 u.kind)).setCell ⟨q, o + 1, none⟩ (.int .i64 u.a)).setCell ⟨q, o + 1 + 1, none⟩ (.int .u64 u.b)
theorem put3_own {w : World} {base : Nat} {e : TypeId} {q c : Nat} {L : List Up} (h : Own eP 3 w base e (some ⟨q, 0, none⟩) c L) {k : Nat} (hk : k < L.length) (u : Up) : Own eP 3 (put3 w q (k * 3) u) base e (some ⟨q, 0, none⟩) c (L.set k u) ∧ w.grownBy (put3 w q (k * 3) u) (some q) := by
  have h1 := World.ownsRow.stored h (k * 3) (.int .i64 u.kind)
  have h2 := World.ownsRow.stored h1.1 (k * 3 + 1) (.int .i64 u.a)
  have h3 := World.ownsRow.stored h2.1 (k * 3 + 1 + 1) (.int .u64 u.b)
  rw [flat_set3 L k hk] at h3
  refine ⟨?_, only_trans (only_trans h1.2 h2.2) h3.2⟩
  unfold Own
  rw [List.length_set]
  exact h3.1
end Go.Proofs.Ytciijdajdmcllaa
