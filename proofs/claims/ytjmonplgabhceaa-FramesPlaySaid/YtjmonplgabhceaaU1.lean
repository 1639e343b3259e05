/- The document's frames in memory: 17 cells each; with. -/
import Derived.Test.YtjmonplgabhceaaW5
import Derived.Test.YtjmonplgabhceaaDel
namespace Go.Proofs.Ytjmonplgabhceaa
open Go.RowKit Go.Lib

/-- one frame: is it taken, and its bytes (the first 16 count) -/
structure FrE where
  T : Bool
  B : Nat → Int
def eF (x : FrE) : List Value := [.bool x.T, .int .u8 (x.B 0), .int .u8 (x.B 1), .int .u8 (x.B 2), .int .u8 (x.B 3), .int .u8 (x.B 4), .int .u8 (x.B 5), .int .u8 (x.B 6), .int .u8 (x.B 7), .int .u8 (x.B 8), .int .u8 (x.B 9), .int .u8 (x.B 10), .int .u8 (x.B 11), .int .u8 (x.B 12), .int .u8 (x.B 13), .int .u8 (x.B 14), .int .u8 (x.B 15)]
def fV (x : FrE) : Value := .agg #[.bool x.T, .int .u8 (x.B 0), .int .u8 (x.B 1), .int .u8 (x.B 2), .int .u8 (x.B 3), .int .u8 (x.B 4), .int .u8 (x.B 5), .int .u8 (x.B 6), .int .u8 (x.B 7), .int .u8 (x.B 8), .int .u8 (x.B 9), .int .u8 (x.B 10), .int .u8 (x.B 11), .int .u8 (x.B 12), .int .u8 (x.B 13), .int .u8 (x.B 14), .int .u8 (x.B 15)]
theorem eF_len (x : FrE) : (eF x).length = 17 := rfl
theorem eF_ok : EncOk eF 17 := ⟨eF_len, fun x u hu => by simp [eF] at hu; rcases hu with rfl | rfl | rfl | rfl | rfl | rfl | rfl | rfl | rfl | rfl | rfl | rfl | rfl | rfl | rfl | rfl | rfl <;> rfl⟩
theorem info_fr : (Try.prog.info? 55).map (fun i => (i.zero, i.size, i.bytes)) = some (some (fV ⟨false, fun _ => 0⟩), 17, 17) := by kernel_rfl
theorem elF : Elem Try.prog 28 55 17 17 := elem_mk Try.underlying28 info_fr rfl (by omega)

/-- stores side by side of one element -/
theorem lay_one (cur : Array Value) (R : List FrE) (i c : Nat) (x : FrE) (hi : i < R.length) (hc : R.length ≤ c) (hs : cur.size = c * 17) (ht : cur.toList.take (R.length * 17) = R.flatMap eF) :
    (lay cur (i * 17) (eF x)).toList.take (R.length * 17) = (R.set i x).flatMap eF := by
  apply List.ext_getElem?
  intro j
  by_cases hj : j < R.length * 17
  · rw [List.getElem?_take, if_pos hj, Array.getElem?_toList, lay_get? _ _ _ _ (by rw [eF_len]; omega), eF_len]
    have hq : j / 17 < R.length := Nat.div_lt_of_lt_mul (by omega)
    have hjd : j / 17 * 17 + j % 17 = j := by omega
    have hr : j % 17 < 17 := Nat.mod_lt _ (by omega)
    by_cases he : j / 17 = i
    · have h1 := flat_at eF_len (R.set i x) i x (j % 17) (by simp [hi]) hr
      rw [if_pos (by omega), show j - i * 17 = j % 17 by omega, ← h1]
      congr 1
      omega
    · have h1 := flat_at eF_len (R.set i x) (j / 17) R[j / 17] (j % 17) (by rw [List.getElem?_set_ne (by omega), List.getElem?_eq_getElem hq]) hr
      have h2 := flat_at eF_len R (j / 17) R[j / 17] (j % 17) (List.getElem?_eq_getElem hq) hr
      rw [if_neg (by omega), ← hjd, h1, ← h2, ← ht, List.getElem?_take, if_pos (by omega), Array.getElem?_toList]
  · rw [List.getElem?_eq_none (by rw [List.length_take]; omega), List.getElem?_eq_none (by rw [flat_len eF_len, List.length_set]; omega)]
theorem put_own {w : World} {base : Nat} {e : TypeId} {q c : Nat} {R : List FrE} (h : Own eF 17 w base e (some ⟨q, 0, none⟩) c R) {i : Nat} (hi : i < R.length) (x : FrE) : Own eF 17 (w.setCells q (i * 17) (eF x)) base e (some ⟨q, 0, none⟩) c (R.set i x) ∧ w.grownBy (w.setCells q (i * 17) (eF x)) (some q) := by
  obtain ⟨cur, h1, h2, h3, h4, h5, h6⟩ := own_block h
  refine ⟨?_, grown_setCells q _ _ w w (only_refl w q)⟩
  have h7 := heap_setCells q e (eF x) (i * 17) w cur h2
  have h8 := lay_one cur R i c x hi h3 h5 h6
  exact ⟨flat_len eF_len _, .inr ⟨q, c, _, rfl, h1, h7, by rw [List.length_set]; exact h3, h4, by rw [lay_size]; exact h5, by rw [List.length_set]; exact h8⟩⟩

/-- the document's memory -/
structure Dm (w : World) (A : Option Addr) (c : Nat) (R : List FrE) : Prop where
  len : 0 < R.length ∧ R.length ≤ 32
  own : Own eF 17 w 0 55 A c R
theorem Dm.keep {w w' : World} {A : Option Addr} {c : Nat} {R : List FrE} (h : Dm w A c R) (hb : Below w.heap.size w w') : Dm w' A c R := ⟨h.len, h.own.keep hb⟩
theorem Dm.drew {w : World} {A : Option Addr} {c : Nat} {R : List FrE} (h : Dm w A c R) : Dm w.drew A c R := ⟨h.len, h.own.drew⟩
/-- the row in block q holds R -/
theorem Dm.at_ {w : World} {A : Option Addr} {c : Nat} {R : List FrE} (h : Dm w A c R) : ∃ q, A = some ⟨q, 0, none⟩ ∧ q < w.heap.size := by
  rcases h.own.shape with ⟨_, e, _⟩ | ⟨q, rfl⟩
  · have := h.len.1; rw [e] at this; simp at this
  · exact ⟨q, rfl, (h.own.lt q rfl).2⟩
theorem Dm.cell {w : World} {q c : Nat} {R : List FrE} (h : Dm w (some ⟨q, 0, none⟩) c R) {i : Nat} (hi : i < R.length) {j : Nat} {v : Value} (hj : (eF R[i])[j]? = some v) : w.cell? ⟨q, i * 17 + j, none⟩ = some v := by
  obtain ⟨b, off, hA, hc⟩ := (h.own.sl eF_ok).at_ hi
  injection hA with hA
  injection hA with h1 h2
  subst h1 h2
  simpa using hc j v hj

def RetD (R' : List FrE) (w : World) (e : Ending) (w' : World) : Prop := ∃ (q d : Nat), e = .returned (.slice (some ⟨q, 0, none⟩) R'.length d) ∧ Dm w' (some ⟨q, 0, none⟩) d R' ∧ w.heap.size ≤ q ∧ Below w.heap.size w w'
set_option maxRecDepth 100000 in
set_option maxHeartbeats 4000000 in
theorem with_any (A : Option Addr) (c : Nat) (R : List FrE) (i : Nat) (x : FrE) (w : World) (hD : Dm w A c R) (hi : i < R.length) :
    Calls Try.prog 18 #[.slice A R.length c, .int .i64 i, fV x] w (RetD (R.set i x) w) := by
  have hlen := hD.len.2
  have hB := below1 w (Obj.cells (eF x).toArray 55)
  have hsl := (hD.own.keep hB).sl eF_ok
  have bk := Blk.new w 55 (eF x).toArray
  have i0 : (0 : Int) ≤ (i : Int) := by omega
  have i1 : (i : Int) < (R.length : Int) := by omega
  have h0 : 0 < R.length := hD.len.1
  have HD := Lib.hid hD
  clear hD
  have hO : Own eF 17 ((w.alloc (Obj.cells (eF x).toArray 55)).alloc (Obj.cells #[] 55)) (w.heap.size + 1) 55 (some ⟨w.heap.size + 1, 0, none⟩) 0 [] := Own.empty' _ 55 (by simp) (by omega)
  have HF1 : Hid (∀ A1 e1 w1, Own eF 17 w1 (w.heap.size + 1) 55 A1 e1 R → ((w.alloc (Obj.cells (eF x).toArray 55)).alloc (Obj.cells #[] 55)).grownBy w1 (blk (some (⟨w.heap.size + 1, 0, none⟩ : Addr))) →
      ∃ q, A1 = some ⟨q, 0, none⟩ ∧ (w1.cell? ⟨w.heap.size, 0, none⟩ = some (.bool x.T) ∧ w1.cell? ⟨w.heap.size, 1, none⟩ = some (.int .u8 (x.B 0)) ∧ w1.cell? ⟨w.heap.size, 2, none⟩ = some (.int .u8 (x.B 1)) ∧ w1.cell? ⟨w.heap.size, 3, none⟩ = some (.int .u8 (x.B 2)) ∧ w1.cell? ⟨w.heap.size, 4, none⟩ = some (.int .u8 (x.B 3)) ∧ w1.cell? ⟨w.heap.size, 5, none⟩ = some (.int .u8 (x.B 4)) ∧ w1.cell? ⟨w.heap.size, 6, none⟩ = some (.int .u8 (x.B 5)) ∧ w1.cell? ⟨w.heap.size, 7, none⟩ = some (.int .u8 (x.B 6)) ∧ w1.cell? ⟨w.heap.size, 8, none⟩ = some (.int .u8 (x.B 7)) ∧ w1.cell? ⟨w.heap.size, 9, none⟩ = some (.int .u8 (x.B 8)) ∧ w1.cell? ⟨w.heap.size, 10, none⟩ = some (.int .u8 (x.B 9)) ∧ w1.cell? ⟨w.heap.size, 11, none⟩ = some (.int .u8 (x.B 10)) ∧ w1.cell? ⟨w.heap.size, 12, none⟩ = some (.int .u8 (x.B 11)) ∧ w1.cell? ⟨w.heap.size, 13, none⟩ = some (.int .u8 (x.B 12)) ∧ w1.cell? ⟨w.heap.size, 14, none⟩ = some (.int .u8 (x.B 13)) ∧ w1.cell? ⟨w.heap.size, 15, none⟩ = some (.int .u8 (x.B 14)) ∧ w1.cell? ⟨w.heap.size, 16, none⟩ = some (.int .u8 (x.B 15))) ∧ (w1.frozen? ⟨q, i * 17, none⟩ = false ∧ w1.frozen? ⟨q, i * 17 + 1, none⟩ = false ∧ w1.frozen? ⟨q, i * 17 + 2, none⟩ = false ∧ w1.frozen? ⟨q, i * 17 + 3, none⟩ = false ∧ w1.frozen? ⟨q, i * 17 + 4, none⟩ = false ∧ w1.frozen? ⟨q, i * 17 + 5, none⟩ = false ∧ w1.frozen? ⟨q, i * 17 + 6, none⟩ = false ∧ w1.frozen? ⟨q, i * 17 + 7, none⟩ = false ∧ w1.frozen? ⟨q, i * 17 + 8, none⟩ = false ∧ w1.frozen? ⟨q, i * 17 + 9, none⟩ = false ∧ w1.frozen? ⟨q, i * 17 + 10, none⟩ = false ∧ w1.frozen? ⟨q, i * 17 + 11, none⟩ = false ∧ w1.frozen? ⟨q, i * 17 + 12, none⟩ = false ∧ w1.frozen? ⟨q, i * 17 + 13, none⟩ = false ∧ w1.frozen? ⟨q, i * 17 + 14, none⟩ = false ∧ w1.frozen? ⟨q, i * 17 + 15, none⟩ = false ∧ w1.frozen? ⟨q, i * 17 + 16, none⟩ = false) ∧ ((∃ v, w1.cell? ⟨q, i * 17, none⟩ = some v) ∧ (∃ v, w1.cell? ⟨q, i * 17 + 1, none⟩ = some v) ∧ (∃ v, w1.cell? ⟨q, i * 17 + 2, none⟩ = some v) ∧ (∃ v, w1.cell? ⟨q, i * 17 + 3, none⟩ = some v) ∧ (∃ v, w1.cell? ⟨q, i * 17 + 4, none⟩ = some v) ∧ (∃ v, w1.cell? ⟨q, i * 17 + 5, none⟩ = some v) ∧ (∃ v, w1.cell? ⟨q, i * 17 + 6, none⟩ = some v) ∧ (∃ v, w1.cell? ⟨q, i * 17 + 7, none⟩ = some v) ∧ (∃ v, w1.cell? ⟨q, i * 17 + 8, none⟩ = some v) ∧ (∃ v, w1.cell? ⟨q, i * 17 + 9, none⟩ = some v) ∧ (∃ v, w1.cell? ⟨q, i * 17 + 10, none⟩ = some v) ∧ (∃ v, w1.cell? ⟨q, i * 17 + 11, none⟩ = some v) ∧ (∃ v, w1.cell? ⟨q, i * 17 + 12, none⟩ = some v) ∧ (∃ v, w1.cell? ⟨q, i * 17 + 13, none⟩ = some v) ∧ (∃ v, w1.cell? ⟨q, i * 17 + 14, none⟩ = some v) ∧ (∃ v, w1.cell? ⟨q, i * 17 + 15, none⟩ = some v) ∧ (∃ v, w1.cell? ⟨q, i * 17 + 16, none⟩ = some v)) ∧ Dm (w1.setCells q (i * 17) (eF x)) (some ⟨q, 0, none⟩) e1 (R.set i x) ∧ w.heap.size ≤ q ∧ Below w.heap.size w (w1.setCells q (i * 17) (eF x))) := fun A1 e1 w1 own1 hg1 => by
    rcases own1.shape with ⟨_, e, _⟩ | ⟨q, rfl⟩
    · rw [e] at h0; simp at h0
    have hb1 : Below (w.heap.size + 1) (w.alloc (Obj.cells (eF x).toArray 55)) w1 := by
      have h0 := (below1 (w.alloc (Obj.cells (eF x).toArray 55)) (Obj.cells #[] 55)).mono (show w.heap.size + 1 ≤ _ by simp)
      refine h0.trans ⟨hg1.os, hg1.tape, hg1.output, hg1.size, fun j hj => hg1.block j (by simp; omega) (by simp [blk]; omega)⟩
    have bk1 : Blk w1 w.heap.size 55 (eF x).toArray := (hb1.block w.heap.size (by omega)).trans bk
    have hq1 := own1.lt q rfl
    have hcap := own1.cap
    have hp2 := put_own own1 hi x
    have hBw : Below w.heap.size w (w1.setCells q (i * 17) (eF x)) := by
      refine (hB.trans (hb1.mono (by omega))).trans ⟨hp2.2.os, hp2.2.tape, hp2.2.output, hp2.2.size, fun j hj => hp2.2.block j (by have := hB.size; have := hb1.size; omega) (by simp; omega)⟩
    exact ⟨q, rfl, ⟨bk1.cell 0 _ rfl, bk1.cell 1 _ rfl, bk1.cell 2 _ rfl, bk1.cell 3 _ rfl, bk1.cell 4 _ rfl, bk1.cell 5 _ rfl, bk1.cell 6 _ rfl, bk1.cell 7 _ rfl, bk1.cell 8 _ rfl, bk1.cell 9 _ rfl, bk1.cell 10 _ rfl, bk1.cell 11 _ rfl, bk1.cell 12 _ rfl, bk1.cell 13 _ rfl, bk1.cell 14 _ rfl, bk1.cell 15 _ rfl, bk1.cell 16 _ rfl⟩, ⟨(own_room own1 (i * 17) (by omega)).2, (own_room own1 (i * 17 + 1) (by omega)).2, (own_room own1 (i * 17 + 2) (by omega)).2, (own_room own1 (i * 17 + 3) (by omega)).2, (own_room own1 (i * 17 + 4) (by omega)).2, (own_room own1 (i * 17 + 5) (by omega)).2, (own_room own1 (i * 17 + 6) (by omega)).2, (own_room own1 (i * 17 + 7) (by omega)).2, (own_room own1 (i * 17 + 8) (by omega)).2, (own_room own1 (i * 17 + 9) (by omega)).2, (own_room own1 (i * 17 + 10) (by omega)).2, (own_room own1 (i * 17 + 11) (by omega)).2, (own_room own1 (i * 17 + 12) (by omega)).2, (own_room own1 (i * 17 + 13) (by omega)).2, (own_room own1 (i * 17 + 14) (by omega)).2, (own_room own1 (i * 17 + 15) (by omega)).2, (own_room own1 (i * 17 + 16) (by omega)).2⟩, ⟨Option.isSome_iff_exists.1 (own_room own1 (i * 17) (by omega)).1, Option.isSome_iff_exists.1 (own_room own1 (i * 17 + 1) (by omega)).1, Option.isSome_iff_exists.1 (own_room own1 (i * 17 + 2) (by omega)).1, Option.isSome_iff_exists.1 (own_room own1 (i * 17 + 3) (by omega)).1, Option.isSome_iff_exists.1 (own_room own1 (i * 17 + 4) (by omega)).1, Option.isSome_iff_exists.1 (own_room own1 (i * 17 + 5) (by omega)).1, Option.isSome_iff_exists.1 (own_room own1 (i * 17 + 6) (by omega)).1, Option.isSome_iff_exists.1 (own_room own1 (i * 17 + 7) (by omega)).1, Option.isSome_iff_exists.1 (own_room own1 (i * 17 + 8) (by omega)).1, Option.isSome_iff_exists.1 (own_room own1 (i * 17 + 9) (by omega)).1, Option.isSome_iff_exists.1 (own_room own1 (i * 17 + 10) (by omega)).1, Option.isSome_iff_exists.1 (own_room own1 (i * 17 + 11) (by omega)).1, Option.isSome_iff_exists.1 (own_room own1 (i * 17 + 12) (by omega)).1, Option.isSome_iff_exists.1 (own_room own1 (i * 17 + 13) (by omega)).1, Option.isSome_iff_exists.1 (own_room own1 (i * 17 + 14) (by omega)).1, Option.isSome_iff_exists.1 (own_room own1 (i * 17 + 15) (by omega)).1, Option.isSome_iff_exists.1 (own_room own1 (i * 17 + 16) (by omega)).1⟩, ⟨by rw [List.length_set]; exact HD.out.len, hp2.1.from_ (by omega)⟩, by omega, hBw⟩
  have HL : Hid ((R.set i x).length = R.length) := List.length_set
  simp only [fV]
  simp only [eF] at hO hsl
  go_enter Try.func18, Try.ntmps18
  go_wp2_with (at_builtin; refine wpList_append_sl _ rfl _ _ rfl elF eF_ok hO (n := 0) rfl rfl (m := R.length) rfl (ys := R) rfl (hsl.alloc _) (by simp only [maxLen]; omega) (by omega) (by simp) _ rfl R.length (by simp) ?_; intro A1 e1 w1 own1 hg1 at1; simp only [List.nil_append] at own1; obtain ⟨q, rfl, ⟨k0, k1, k2, k3, k4, k5, k6, k7, k8, k9, k10, k11, k12, k13, k14, k15, k16⟩, ⟨z0, z1, z2, z3, z4, z5, z6, z7, z8, z9, z10, z11, z12, z13, z14, z15, z16⟩, ⟨⟨v0, y0⟩, ⟨v1, y1⟩, ⟨v2, y2⟩, ⟨v3, y3⟩, ⟨v4, y4⟩, ⟨v5, y5⟩, ⟨v6, y6⟩, ⟨v7, y7⟩, ⟨v8, y8⟩, ⟨v9, y9⟩, ⟨v10, y10⟩, ⟨v11, y11⟩, ⟨v12, y12⟩, ⟨v13, y13⟩, ⟨v14, y14⟩, ⟨v15, y15⟩, ⟨v16, y16⟩⟩, hq, hq2, hBw⟩ := HF1.out A1 e1 w1 own1 hg1; (have HE := Lib.hid (And.intro hq (And.intro hq2 hBw))); clear hq hq2 hBw own1 hg1 at1)
  go_ret
  exact ⟨q, e1, by rw [HL.out]; rfl, HE.out.1, HE.out.2.1, HE.out.2.2⟩
end Go.Proofs.Ytjmonplgabhceaa
