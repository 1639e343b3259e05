/- Plain: the program's memory and the document's say the same, and every call keeps it so. -/
import Derived.Test.YtjmonplgabhceaaU4
namespace Go.Proofs.Ytjmonplgabhceaa
open Go.RowKit Go.Lib

structure Mt (s : FrS) (R : List FrE) : Prop where
  n : s.n = R.length
  t : s.T.length = 32
  b : s.B.length = 512
  le : R.length ≤ 32
  T : ∀ i, (hi : i < R.length) → s.T[i]? = some R[i].T
  B : ∀ i, (hi : i < R.length) → ∀ j, j < 16 → s.B[i * 16 + j]? = some (R[i].B j)
section
variable {s : FrS} {R : List FrE}
theorem Mt.taken (h : Mt s R) (i : Int) : takenF s i = isD R i := by
  unfold takenF hasF isD
  by_cases h2 : 0 ≤ i ∧ i < R.length
  · have hi : i.toNat < R.length := by omega
    rw [decide_eq_true (by rw [h.n]; exact h2), decide_eq_true h2, h.T _ hi, List.getElem?_eq_getElem hi]
    rfl
  · rw [decide_eq_false (by rw [h.n]; exact h2), decide_eq_false h2]
    rfl
theorem Mt.byteE (h : Mt s R) (i a : Int) : byteE s i a = readE R i a := by
  unfold Go.Proofs.Ytjmonplgabhceaa.byteE readE
  rw [h.taken]
  cases isD R i
  · rfl
  · simp only [Bool.true_eq_false, if_false, if_true]
    by_cases h2 : 0 ≤ a ∧ a ≤ 15
    · rw [if_neg (by omega), if_pos h2]
    · rw [if_pos (by omega), if_neg h2]
theorem Mt.byteV (h : Mt s R) (i a : Int) : byteV s i a = readV R i a := by
  unfold Go.Proofs.Ytjmonplgabhceaa.byteV
  rw [h.byteE]
  by_cases h0 : readE R i a = 0
  · rw [if_pos h0]
    obtain ⟨k, m, rfl, rfl, hk, hm⟩ := readE_0 h0
    have h1 := h0
    unfold readE at h1
    split at h1
    · rename_i hb
      unfold readV
      rw [if_pos hb, if_pos (by omega), Int.toNat_natCast, Int.toNat_natCast, h.B k hk m hm, List.getElem?_eq_getElem hk]
      rfl
    · cases h1
  · rw [if_neg h0]
    unfold readE at h0
    unfold readV
    split at h0
    · rename_i hb
      rw [if_pos hb]
      split at h0
      · exact absurd rfl h0
      · rename_i h2
        rw [if_neg h2]
    · rename_i hb
      rw [if_neg hb]
theorem mul_apart {i k j m : Nat} (hj : j < 16) (hm : m < 16) : i * 16 + j = k * 16 + m ↔ i = k ∧ j = m := by omega
theorem Mt.write (h : Mt s R) (i a v : Int) : Mt (writeF s i a v) (writeD R i a v) := by
  unfold writeF writeD
  rw [h.byteE]
  by_cases h0 : readE R i a = 0
  · rw [if_pos h0, if_pos h0]
    obtain ⟨k, m, rfl, rfl, hk, hm⟩ := readE_0 h0
    rw [Int.toNat_natCast, Int.toNat_natCast, modify_set R k hk]
    refine ⟨by simpa using h.n, h.t, by simpa using h.b, by simpa using h.le, fun i hi => ?_, fun i hi j hj => ?_⟩
    · have hi' : i < R.length := by simpa using hi
      rw [List.getElem_set]
      by_cases he : k = i
      · subst he; rw [if_pos rfl]; exact h.T _ hi'
      · rw [if_neg he]; exact h.T i hi'
    · have hi' : i < R.length := by simpa using hi
      have hle := h.le
      have hb := h.b
      show (s.B.set (k * 16 + m) v)[i * 16 + j]? = _
      rw [List.getElem?_set, List.getElem_set]
      by_cases he : k = i
      · subst he
        rw [if_pos rfl]
        by_cases hjm : j = m
        · subst hjm
          rw [if_pos rfl, if_pos (by omega)]
          show some v = some (if j = j then v else _)
          rw [if_pos rfl]
        · rw [if_neg (by omega)]
          show _ = some (if j = m then v else _)
          rw [if_neg hjm]
          exact h.B _ hi' j hj
      · rw [if_neg he, if_neg (by omega)]
        exact h.B i hi' j hj
  · rw [if_neg h0, if_neg h0]
    exact h
theorem Mt.setT (h : Mt s R) {k : Nat} (hk : k < R.length) (v : Bool) : Mt { s with T := s.T.set k v } (R.set k { R[k] with T := v }) := by
  have hle := h.le
  have ht := h.t
  refine ⟨by simpa using h.n, by simpa using h.t, h.b, by simpa using h.le, fun i hi => ?_, fun i hi j hj => ?_⟩
  · have hi' : i < R.length := by simpa using hi
    show (s.T.set k v)[i]? = _
    rw [List.getElem?_set, List.getElem_set]
    by_cases he : k = i
    · subst he; rw [if_pos rfl, if_pos (by omega), if_pos rfl]
    · rw [if_neg he, if_neg he]; exact h.T i hi'
  · have hi' : i < R.length := by simpa using hi
    rw [List.getElem_set]
    by_cases he : k = i
    · subst he; rw [if_pos rfl]; exact h.B _ hi' j hj
    · rw [if_neg he]; exact h.B i hi' j hj
theorem Mt.free (h : Mt s R) (i : Int) : Mt (freeF s i) (giveD R i) := by
  unfold freeF giveD
  rw [h.taken]
  cases hb : isD R i
  · exact h
  · obtain ⟨k, rfl, hk⟩ := isD_in hb
    rw [if_pos rfl, if_pos rfl, Int.toNat_natCast, modify_set R k hk]
    exact h.setT hk false
theorem layB_get? : ∀ (vs B : List Int) (m j : Nat), m + vs.length ≤ B.length → (layB B m vs)[j]? = if m ≤ j ∧ j < m + vs.length then vs[j - m]? else B[j]?
  | [], B, m, j, _ => by rw [layB, if_neg (by simp)]
  | v :: r, B, m, j, h => by
    simp only [List.length_cons] at h
    rw [layB, layB_get? r _ _ _ (by simp; omega)]
    by_cases h1 : m + 1 ≤ j ∧ j < m + 1 + r.length
    · rw [if_pos h1, if_pos (by simp; omega), show j - m = (j - (m + 1)) + 1 by omega, List.getElem?_cons_succ]
    · rw [if_neg h1, List.getElem?_set]
      by_cases h2 : m = j
      · subst h2
        rw [if_pos rfl, if_pos (by omega), if_pos (by simp), Nat.sub_self]
        rfl
      · rw [if_neg h2, if_neg (by simp; omega)]
theorem layB_len : ∀ (vs B : List Int) (m : Nat), (layB B m vs).length = B.length
  | [], B, m => rfl
  | v :: r, B, m => by rw [layB, layB_len r]; simp
theorem zero16_at {B : List Int} {k i j : Nat} (hk : k * 16 + 16 ≤ B.length) (hj : j < 16) : (zero16 B k)[i * 16 + j]? = if i = k then some 0 else B[i * 16 + j]? := by
  unfold zero16
  rw [layB_get? _ _ _ _ (by simpa using hk)]
  by_cases h : i = k
  · subst h
    rw [if_pos (by simp; omega), if_pos rfl, show i * 16 + j - i * 16 = j by omega]
    exact List.getElem?_replicate (n := 16) (a := (0 : Int)) (i := j) |>.trans (if_pos hj)
  · rw [if_neg (by simp; omega), if_neg h]
theorem Mt.first (h : Mt s R) : firstF s = firstD R := by
  unfold firstF firstD
  have e : s.T.take s.n = R.map FrE.T := by
    apply List.ext_getElem?
    intro i
    rw [List.getElem?_take, List.getElem?_map, h.n]
    by_cases hi : i < R.length
    · rw [if_pos hi, h.T i hi, List.getElem?_eq_getElem hi]; rfl
    · rw [if_neg hi, List.getElem?_eq_none (by omega)]; rfl
  rw [e, List.findIdx?_map]
  rfl
theorem Mt.take (h : Mt s R) : Mt (takeF s) (takeD R) := by
  have hf := h.first
  unfold takeF takeD
  rw [hf]
  cases hd : firstD R with
  | none => exact h
  | some k =>
    have hk : k < R.length := (List.findIdx?_eq_some_iff_getElem.1 hd).1
    have hle := h.le
    have ht := h.t
    have hb := h.b
    refine ⟨by simpa using h.n, by simpa using h.t, by show (zero16 s.B k).length = 512; unfold zero16; rw [layB_len]; exact h.b, by simpa using h.le, fun i hi => ?_, fun i hi j hj => ?_⟩
    · have hi' : i < R.length := by simpa using hi
      show (s.T.set k true)[i]? = _
      rw [List.getElem?_set, List.getElem_set]
      by_cases he : k = i
      · subst he; rw [if_pos rfl, if_pos (by omega), if_pos rfl]; rfl
      · rw [if_neg he, if_neg he]; exact h.T i hi'
    · have hi' : i < R.length := by simpa using hi
      show (zero16 s.B k)[i * 16 + j]? = _
      rw [zero16_at (by omega) hj, List.getElem_set]
      by_cases he : k = i
      · subst he; rw [if_pos rfl, if_pos rfl]; rfl
      · rw [if_neg (fun e => he e.symm), if_neg he]; exact h.B i hi' j hj
theorem Mt.freeN (h : Mt s R) : freeN s.T s.n = freeD R R.length := by
  unfold Go.Proofs.Ytjmonplgabhceaa.freeN freeD
  have e : s.T.take s.n = R.map FrE.T := by
    apply List.ext_getElem?
    intro i
    rw [List.getElem?_take, List.getElem?_map, h.n]
    by_cases hi : i < R.length
    · rw [if_pos hi, h.T i hi, List.getElem?_eq_getElem hi]; rfl
    · rw [if_neg hi, List.getElem?_eq_none (by omega)]; rfl
  rw [e, List.take_of_length_le (Nat.le_refl _), ← List.countP_eq_length_filter, List.countP_map]
  rfl
theorem Mt.row (h : Mt s R) {i : Nat} (hi : i < R.length) : rowB s i = (List.range 16).map R[i].B := by
  unfold rowB
  apply List.ext_getElem?
  intro j
  rw [List.getElem?_take, List.getElem?_drop]
  by_cases hj : j < 16
  · rw [if_pos hj, h.B i hi j hj, List.getElem?_map, List.getElem?_range hj]; rfl
  · rw [if_neg hj, List.getElem?_eq_none (by simp; omega)]
end
theorem newD_at {n i : Nat} (hi : i < (newD n).length) : (newD n)[i] = ⟨false, fun _ => 0⟩ := List.getElem_replicate _
theorem newD_len (n : Nat) : (newD n).length = n := List.length_replicate
theorem mt_new (n : Nat) (h : n ≤ 32) : Mt (newF n) (newD n) := by
  have hl := newD_len n
  refine ⟨hl.symm, List.length_replicate, List.length_replicate, by omega, fun i hi => ?_, fun i hi j hj => ?_⟩
  · rw [newD_at hi]
    exact List.getElem?_replicate.trans (if_pos (by omega))
  · rw [newD_at hi]
    exact List.getElem?_replicate.trans (if_pos (by omega))
end Go.Proofs.Ytjmonplgabhceaa
