/- Plain: sorting by insertion is the stable sort; the vectors. -/
import Derived.Test.YtdfklbjkcednhaaW12
namespace Go.Proofs.Ytdfklbjkcednhaa

theorem retag_append (xs ys : List Nt) : ∀ k, retag k (xs ++ ys) = retag k xs ++ retag (k + xs.length) ys := by
  induction xs with
  | nil => intro k; simp [retag]
  | cons x xs ih =>
    intro k
    simp only [List.cons_append, retag, ih, List.length_cons]
    rw [show k + 1 + xs.length = k + (xs.length + 1) by omega]
theorem retag_lt {xs : List Nt} : ∀ {k : Nat} {y : Nt}, y ∈ retag k xs → y.nTag < k + xs.length := by
  induction xs with
  | nil => intro k y h; simp [retag] at h
  | cons x xs ih =>
    intro k y h
    simp only [retag, List.mem_cons] at h
    rcases h with rfl | h
    · simp
    · have := ih h
      simp only [List.length_cons]
      omega
theorem ins_perm {X : List Nt} {x : Nt} {k : Nat} : (X.take k ++ x :: X.drop k).Perm (X ++ [x]) := by
  refine List.perm_middle.trans ?_
  rw [List.take_append_drop]
  exact (List.perm_append_singleton x X).symm
theorem ins_srt {X : List Nt} {x : Nt} {k : Nat} (h : Srt X) (ht : ∀ y ∈ X, y.nTag < x.nTag) (h1 : ∀ y ∈ X.drop k, x.nTil < y.nTil) (h2 : k = 0 ∨ ∃ p, ∃ hp : p < X.length, p + 1 = k ∧ ¬ x.nTil < X[p].nTil) : Srt (X.take k ++ x :: X.drop k) := by
  unfold Srt at *
  have h3 : ∀ y ∈ X.take k, Lt2 y x := fun y hy => by
    rcases h2 with rfl | ⟨p, hp, rfl, hq⟩
    · simp at hy
    · obtain ⟨i, hi, rfl⟩ := List.getElem_of_mem hy
      rw [List.length_take] at hi
      rw [List.getElem_take]
      refine Lt2.of_le ?_ (ht _ (List.getElem_mem _))
      by_cases he : i = p
      · subst he; exact hq
      · have := (List.pairwise_iff_getElem.1 h i p (by omega) hp (by omega)).le
        omega
  rw [List.pairwise_append, List.pairwise_cons]
  refine ⟨h.sublist (List.take_sublist _ _), ⟨fun y hy => Lt2.of_lt (h1 y hy), h.sublist (List.drop_sublist _ _)⟩, fun y hy z hz => ?_⟩
  rcases List.mem_cons.1 hz with rfl | hz
  · exact h3 y hy
  · exact (h3 y hy).trans (Lt2.of_lt (h1 z hz))
theorem srt_unique {T X : List Nt} (h1 : Srt T) (h2 : Srt X) (h : T.Perm X) : T = X :=
  List.Perm.eq_of_pairwise (fun a b _ _ (h : Lt2 a b) (k : Lt2 b a) => by unfold Lt2 at h k; omega) h1 h2 h

/-- the document's vector: one more; the first goes -/
def putI (V : List Int) (f : Int) : List Int := if 16 < V.length + 1 then (V ++ [f]).drop 1 else V ++ [f]
def putD (P : List (List Int)) (x : Nt) : List (List Int) := P.set x.nEnv.toNat (putI (P.getD x.nEnv.toNat []) x.nFrm)
theorem cnt_put {v : Vc} (h : v.vF.length = 16 ∧ v.vS ≤ 16) (f : Int) : cntV (putC v f) = putI (cntV v) f := by
  obtain ⟨F, s⟩ := v
  obtain ⟨h1, h2⟩ := h
  simp only at h1 h2
  unfold putI cntV
  simp only [List.length_take, h1]
  by_cases hs : s = 16
  · subst hs
    simp only [putC, if_true]
    obtain ⟨a, F, rfl⟩ : ∃ a G, F = a :: G := by
      cases F with
      | nil => simp at h1
      | cons a G => exact ⟨a, G, rfl⟩
    simp only [List.length_cons] at h1
    rw [if_pos (by simp), List.take_of_length_le (by simp; omega), List.take_of_length_le (by simp; omega)]
    rfl
  · rw [if_neg (by omega)]
    simp only [putC, hs, if_false]
    apply List.ext_getElem
    · simp; omega
    · intro i hi hj
      simp only [List.length_take, List.length_set, List.length_append, List.length_singleton] at hi hj
      simp only [List.getElem_take, List.getElem_set, List.getElem_append, List.length_take]
      by_cases he : s = i
      · subst he
        rw [if_pos rfl, dif_neg (by omega)]
        simp
      · rw [if_neg he, dif_pos (by omega)]
theorem cnt_VS {VS : List Vc} (h8 : VS.length = 8) (h : ∀ v ∈ VS, v.vF.length = 16 ∧ v.vS ≤ 16) {x : Nt} (hx : 0 ≤ x.nEnv ∧ x.nEnv < 8) : (putVS VS x).map cntV = putD (VS.map cntV) x := by
  have he : x.nEnv.toNat < VS.length := by omega
  unfold putVS putD
  rw [List.map_set, cnt_put]
  · congr 2
    simp [he]
  · simp only [List.getD, List.getElem?_eq_getElem he, Option.getD_some]
    exact h _ (List.getElem_mem he)
theorem cnt_fold {T : List Nt} : ∀ {VS : List Vc}, VS.length = 8 → (∀ v ∈ VS, v.vF.length = 16 ∧ v.vS ≤ 16) → (∀ x ∈ T, 0 ≤ x.nEnv ∧ x.nEnv < 8) → (T.foldl putVS VS).map cntV = T.foldl putD (VS.map cntV) := by
  induction T with
  | nil => intro VS _ _ _; rfl
  | cons x T ih =>
    intro VS h8 h hT
    obtain ⟨p1, p2⟩ := putVS_ok h8 h (hT x (by simp))
    simp only [List.foldl_cons]
    rw [ih p1 p2 (fun y hy => hT y (by simp [hy])), cnt_VS h8 h (hT x (by simp))]
end Go.Proofs.Ytdfklbjkcednhaa
