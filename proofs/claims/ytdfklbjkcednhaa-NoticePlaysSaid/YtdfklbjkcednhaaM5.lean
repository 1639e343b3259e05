/- Plain: what is wanted back, and until when. -/
import Derived.Test.YtdfklbjkcednhaaW12
namespace Go.Proofs.Ytdfklbjkcednhaa

def keyN (x : Nt) : Nat := x.nEnv.toNat * 32 + x.nFrm.toNat
def okN (x : Nt) : Prop := (0 ≤ x.nEnv ∧ x.nEnv < 8) ∧ (0 ≤ x.nFrm ∧ x.nFrm < 32)
theorem key_lt {x : Nt} (h : okN x) : keyN x < 256 := by unfold okN at h; unfold keyN; omega
theorem key_inj {x y : Nt} (hx : okN x) (hy : okN y) (h : keyN x = keyN y) : x.nEnv = y.nEnv ∧ x.nFrm = y.nFrm := by unfold okN at hx hy; unfold keyN at h; omega
/-- the notices, and the table of the statement -/
structure Gi (L : List Nt) (U : List Int) : Prop where
  ul : U.length = 256
  rg : ∀ x ∈ L, okN x ∧ 1 ≤ x.nTil ∧ U[keyN x]? = some x.nTil
  nd : (L.map keyN).Nodup
theorem Gi.nil {U : List Int} (h : U.length = 256) : Gi [] U := ⟨h, fun x hx => absurd hx (List.not_mem_nil), List.nodup_nil⟩
theorem set_ne {U : List Int} {i j : Nat} {v : Int} {x : Int} (h : U[i]? = some x) (hij : i ≠ j) : (U.set j v)[i]? = some x := by rw [List.getElem?_set_ne (Ne.symm hij)]; exact h
theorem Gi.want {L : List Nt} {U : List Int} (h : Gi L U) {x : Nt} (hx : okN x) (ht : 1 ≤ x.nTil) (hn : plcN L x.nEnv x.nFrm < 0) : Gi (L ++ [x]) (U.set (keyN x) x.nTil) := by
  have hno : ∀ y ∈ L, keyN y ≠ keyN x := fun y hy e => by
    obtain ⟨e1, e2⟩ := key_inj (h.rg y hy).1 hx e
    unfold plcN fiN at hn
    cases hf : L.findIdx? (hasN x.nEnv x.nFrm) with
    | some i => rw [hf] at hn; simp at hn; omega
    | none =>
      have := List.findIdx?_eq_none_iff.1 hf y hy
      simp [hasN, e1, e2] at this
  refine ⟨by simp [h.ul], fun y hy => ?_, ?_⟩
  · rcases List.mem_append.1 hy with hy | hy
    · obtain ⟨a, b, c⟩ := h.rg y hy
      exact ⟨a, b, set_ne c (hno y hy)⟩
    · simp at hy
      subst hy
      exact ⟨hx, ht, by rw [List.getElem?_set_self (by rw [h.ul]; exact key_lt hx)]⟩
  · rw [List.map_append, List.nodup_append]
    refine ⟨h.nd, by simp, fun a ha b hb => ?_⟩
    obtain ⟨y, hy, rfl⟩ := List.mem_map.1 ha
    simp at hb
    subst hb
    exact hno y hy
theorem nodup_key {L : List Nt} (h : (L.map keyN).Nodup) {i j : Nat} (hi : i < L.length) (hj : j < L.length) (hne : i ≠ j) : keyN L[i] ≠ keyN L[j] := fun e => by
  have := (List.getElem_inj (i := i) (j := j) (h₀ := by simpa using hi) (h₁ := by simpa using hj) h).1 (by simpa using e)
  exact hne this
theorem Gi.given {L : List Nt} {U : List Int} (h : Gi L U) {e f : Int} {i : Nat} (hf : fiN L e f = some i) : okN ⟨e, f, 0, 0⟩ ∧ Gi (L.eraseIdx i) (U.set (keyN ⟨e, f, 0, 0⟩) 0) := by
  obtain ⟨hi, hh, _⟩ := List.findIdx?_eq_some_iff_getElem.1 hf
  simp [hasN] at hh
  have hk : keyN L[i] = keyN ⟨e, f, 0, 0⟩ := by unfold keyN; rw [hh.1, hh.2]
  have hok := (h.rg _ (List.getElem_mem hi)).1
  refine ⟨by unfold okN at *; rw [hh.1, hh.2] at hok; exact hok, by simp [h.ul], fun y hy => ?_, ?_⟩
  · obtain ⟨j, hj, hne, rfl⟩ := List.mem_eraseIdx_iff_getElem.1 hy
    obtain ⟨a, b, c⟩ := h.rg _ (List.getElem_mem hj)
    refine ⟨a, b, set_ne c ?_⟩
    rw [← hk]
    exact nodup_key h.nd hj hi hne
  · exact List.Nodup.sublist ((List.eraseIdx_sublist L i).map keyN) h.nd
/-- between two of those that go: T those whose ticks are over, from the j-th on, and M what is left -/
structure Go2 (T M : List Nt) (U : List Int) (now : Int) (j : Nat) : Prop where
  ul : U.length = 256
  t : ∀ x ∈ T.drop j, okN x ∧ 1 ≤ x.nTil ∧ x.nTil ≤ now ∧ U[keyN x]? = some x.nTil
  m : ∀ x ∈ M, okN x ∧ 1 ≤ x.nTil ∧ U[keyN x]? = some x.nTil
  nd : (T.map keyN).Nodup
  mn : (M.map keyN).Nodup
  ap : ∀ x ∈ T, ∀ y ∈ M, keyN x ≠ keyN y
theorem keyN_retag (X : List Nt) : ∀ k, (retag k X).map keyN = X.map keyN := by
  induction X with
  | nil => intro k; rfl
  | cons x X ih => intro k; simp only [retag, List.map_cons, ih]; rfl
theorem Gi.over {L : List Nt} {U : List Int} (h : Gi L U) (now : Int) {T : List Nt} (hp : T.Perm (retag 0 (L.filter fun x => decide (x.nTil ≤ now)))) : Go2 T (L.filter fun x => decide (now < x.nTil)) U now 0 := by
  have hnd : (T.map keyN).Nodup := by
    have h1 := (hp.map keyN).nodup_iff.2
    refine h1 ?_
    rw [keyN_retag]
    exact List.Nodup.sublist (List.filter_sublist.map keyN) h.nd
  have src : ∀ x ∈ T, ∃ y ∈ L, x.nEnv = y.nEnv ∧ x.nFrm = y.nFrm ∧ x.nTil = y.nTil ∧ y.nTil ≤ now := fun x hx => by
    obtain ⟨y, hy, h1, h2, h3⟩ := retag_mem (hp.mem_iff.1 hx)
    have := List.mem_filter.1 hy
    exact ⟨y, this.1, h1, h2, h3, by simpa using this.2⟩
  refine ⟨h.ul, fun x hx => ?_, fun x hx => h.rg x (List.mem_filter.1 hx).1, hnd, List.Nodup.sublist (List.filter_sublist.map keyN) h.nd, fun x hx y hy => ?_⟩
  · obtain ⟨y, hy, h1, h2, h3, h4⟩ := src x (by simpa using hx)
    obtain ⟨a, b, c⟩ := h.rg y hy
    have hk : keyN x = keyN y := by unfold keyN; rw [h1, h2]
    exact ⟨by unfold okN at *; rw [h1, h2]; exact a, by omega, by omega, by rw [hk, h3]; exact c⟩
  · obtain ⟨z, hz, h1, h2, h3, h4⟩ := src x hx
    have hy' := List.mem_filter.1 hy
    have hk : keyN x = keyN z := by unfold keyN; rw [h1, h2]
    rw [hk]
    intro e
    obtain ⟨i, hi, rfl⟩ := List.getElem_of_mem hz
    obtain ⟨j, hj, rfl⟩ := List.getElem_of_mem hy'.1
    by_cases hij : i = j
    · subst hij
      have := hy'.2
      simp at this
      omega
    · exact nodup_key h.nd hi hj hij e
theorem Go2.step {T M : List Nt} {U : List Int} {now : Int} {j : Nat} (h : Go2 T M U now j) (hj : j < T.length) : Go2 T M (U.set (keyN T[j]) 0) now (j + 1) := by
  refine ⟨by simp [h.ul], fun x hx => ?_, fun x hx => ?_, h.nd, h.mn, h.ap⟩
  · have hx' : x ∈ T.drop j := by
      rw [List.drop_eq_getElem_cons hj]
      exact List.mem_cons_of_mem _ hx
    obtain ⟨a, b, c, d⟩ := h.t x hx'
    refine ⟨a, b, c, set_ne d ?_⟩
    obtain ⟨i, hi, rfl⟩ := List.getElem_of_mem hx
    rw [List.getElem_drop]
    rw [List.length_drop] at hi
    exact nodup_key h.nd (by omega) hj (by omega)
  · obtain ⟨a, b, c⟩ := h.m x hx
    exact ⟨a, b, set_ne c (Ne.symm (h.ap _ (List.getElem_mem hj) x hx))⟩
theorem Go2.at_ {T M : List Nt} {U : List Int} {now : Int} {j : Nat} (h : Go2 T M U now j) (hj : j < T.length) : okN T[j] ∧ 1 ≤ T[j].nTil ∧ T[j].nTil ≤ now ∧ U[keyN T[j]]? = some T[j].nTil :=
  h.t _ (by rw [List.drop_eq_getElem_cons hj]; exact List.mem_cons_self)
theorem Go2.done {T M : List Nt} {U : List Int} {now : Int} {j : Nat} (h : Go2 T M U now j) : Gi M U := ⟨h.ul, h.m, h.mn⟩
end Go.Proofs.Ytdfklbjkcednhaa
