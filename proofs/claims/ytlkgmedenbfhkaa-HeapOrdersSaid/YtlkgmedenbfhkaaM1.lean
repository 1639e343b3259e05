/- Plain: a heap as a list; what up and down keep. -/
import Derived.Test.YtlkgmedenbfhkaaMp
namespace Go.Proofs.Ytlkgmedenbfhkaa

structure En where
  key : Int
  what : Int
  handle : Int
  turn : Int
/-- is a ahead of b? -/
def ltE (a b : En) : Bool := decide (a.key < b.key ∨ a.key = b.key ∧ a.turn < b.turn)
def leE (a b : En) : Prop := a.key < b.key ∨ a.key = b.key ∧ a.turn ≤ b.turn
theorem leE_refl (a : En) : leE a a := .inr ⟨rfl, Int.le_refl _⟩
theorem leE_trans {a b c : En} (h : leE a b) (k : leE b c) : leE a c := by unfold leE at *; omega
theorem not_lt {a b : En} (h : ltE a b = false) : leE b a := by
  have h2 : ¬ (a.key < b.key ∨ a.key = b.key ∧ a.turn < b.turn) := of_decide_eq_false h
  unfold leE; omega
theorem lt_le {a b : En} (h : ltE a b = true) : leE a b := by
  have h2 : (a.key < b.key ∨ a.key = b.key ∧ a.turn < b.turn) := of_decide_eq_true h
  unfold leE; omega
def atE (E : List En) (k : Nat) : En := E[k]?.getD ⟨0, 0, 0, 0⟩
theorem atE_eq {E : List En} {k : Nat} (h : k < E.length) : E[k] = atE E k := by unfold atE; rw [List.getElem?_eq_getElem h]; rfl
theorem atE_mem {E : List En} {k : Nat} (h : k < E.length) : atE E k ∈ E := by rw [← atE_eq h]; exact List.getElem_mem h
def swapE (E : List En) (i j : Nat) : List En := (E.set i (atE E j)).set j (atE E i)
theorem swapE_len (E : List En) (i j : Nat) : (swapE E i j).length = E.length := by simp [swapE]
theorem swapE_at {E : List En} {i j : Nat} (hi : i < E.length) (hj : j < E.length) (k : Nat) :
    atE (swapE E i j) k = if k = j then atE E i else if k = i then atE E j else atE E k := by
  unfold swapE
  by_cases h1 : k = j
  · subst h1
    rw [if_pos rfl]
    have e : ((E.set i (atE E k)).set k (atE E i))[k]? = some (atE E i) := by rw [List.getElem?_set_self (by simpa using hj)]
    show (((E.set i (atE E k)).set k (atE E i))[k]?).getD _ = _
    rw [e]; rfl
  · rw [if_neg h1]
    have e : ((E.set i (atE E j)).set j (atE E i))[k]? = (E.set i (atE E j))[k]? := List.getElem?_set_ne (fun e => h1 e.symm)
    show (((E.set i (atE E j)).set j (atE E i))[k]?).getD _ = _
    rw [e]
    by_cases h2 : k = i
    · subst h2
      rw [if_pos rfl, List.getElem?_set_self hi]; rfl
    · rw [if_neg h2, List.getElem?_set_ne (fun e => h2 e.symm)]; rfl
theorem swapE_perm {E : List En} {i j : Nat} (hi : i < E.length) (hj : j < E.length) : (swapE E i j).Perm E := by
  unfold swapE
  rw [← atE_eq hi, ← atE_eq hj]
  exact List.set_set_perm hi hj
theorem take_at {E : List En} {n k : Nat} (h : k < n) : atE (E.take n) k = atE E k := by
  unfold atE
  rw [List.getElem?_take, if_pos h]
/-- the heap's order -/
def HeapB (E : List En) : Prop := ∀ j, j < E.length → 0 < j → leE (atE E ((j - 1) / 2)) (atE E j)
def UpI (E : List En) (i : Nat) : Prop :=
  (∀ j, j < E.length → 0 < j → j ≠ i → leE (atE E ((j - 1) / 2)) (atE E j)) ∧
  (∀ j, j < E.length → 0 < j → (j - 1) / 2 = i → 0 < i → leE (atE E ((i - 1) / 2)) (atE E j))
def DownI (E : List En) (i : Nat) : Prop :=
  (∀ j, j < E.length → 0 < j → (j - 1) / 2 ≠ i → leE (atE E ((j - 1) / 2)) (atE E j)) ∧
  (∀ j, j < E.length → 0 < j → (j - 1) / 2 = i → 0 < i → leE (atE E ((i - 1) / 2)) (atE E j))
theorem up_end {E : List En} {i : Nat} (h : UpI E i) (he : i = 0 ∨ leE (atE E ((i - 1) / 2)) (atE E i)) : HeapB E := by
  intro j hj h0
  by_cases hji : j = i
  · subst hji
    rcases he with he | he
    · omega
    · exact he
  · exact h.1 j hj h0 hji
theorem up_step {E : List En} {i : Nat} (hi : i < E.length) (h0 : 0 < i) (h : UpI E i) (hlt : leE (atE E i) (atE E ((i - 1) / 2))) : UpI (swapE E i ((i - 1) / 2)) ((i - 1) / 2) := by
  have hp : (i - 1) / 2 < i := by omega
  have hp2 : (i - 1) / 2 < E.length := by omega
  refine ⟨fun j hj hj0 hne => ?_, fun j hj hj0 hpar hp0 => ?_⟩
  · rw [swapE_len] at hj
    rw [swapE_at hi hp2, swapE_at hi hp2]
    by_cases hji : j = i
    · subst hji
      rw [if_pos rfl, if_neg (by omega), if_pos rfl]
      exact hlt
    · have hj1 := h.1 j hj hj0 hji
      by_cases hpj : (j - 1) / 2 = (i - 1) / 2
      · rw [if_pos hpj, if_neg hne, if_neg hji]
        refine leE_trans hlt ?_
        rw [← hpj]
        exact hj1
      · rw [if_neg hpj]
        by_cases hpi : (j - 1) / 2 = i
        · rw [if_pos hpi, if_neg hne, if_neg hji]
          exact h.2 j hj hj0 hpi h0
        · rw [if_neg hpi, if_neg hne, if_neg hji]
          exact hj1
  · rw [swapE_len] at hj
    rw [swapE_at hi hp2, swapE_at hi hp2]
    rw [if_neg (by omega), if_neg (by omega)]
    have hup := h.1 ((i - 1) / 2) (by omega) hp0 (by omega)
    by_cases hji : j = i
    · subst hji
      rw [if_neg (by omega), if_pos rfl]
      exact hup
    · rw [if_neg (by omega), if_neg hji]
      have := h.1 j hj hj0 hji
      rw [hpar] at this
      exact leE_trans hup this
theorem down_end {E : List En} {i : Nat} (h : DownI E i) (hc : ∀ j, j < E.length → 0 < j → (j - 1) / 2 = i → leE (atE E i) (atE E j)) : HeapB E := by
  intro j hj h0
  by_cases hji : (j - 1) / 2 = i
  · rw [hji]
    exact hc j hj h0 hji
  · exact h.1 j hj h0 hji
theorem down_step {E : List En} {i m : Nat} (hm : m < E.length) (hm0 : 0 < m) (hpar : (m - 1) / 2 = i) (h : DownI E i) (hlt : leE (atE E m) (atE E i)) (hmin : ∀ j, j < E.length → 0 < j → (j - 1) / 2 = i → leE (atE E m) (atE E j)) :
    DownI (swapE E i m) m := by
  have hi : i < m := by omega
  have hi2 : i < E.length := by omega
  refine ⟨fun j hj hj0 hne => ?_, fun j hj hj0 hpj _ => ?_⟩
  · rw [swapE_len] at hj
    rw [swapE_at hi2 hm, swapE_at hi2 hm, if_neg hne]
    by_cases hji : j = m
    · subst hji
      rw [if_pos hpar, if_pos rfl]
      exact hlt
    · rw [if_neg hji]
      by_cases hpi : (j - 1) / 2 = i
      · rw [if_pos hpi, if_neg (by omega)]
        exact hmin j hj hj0 hpi
      · rw [if_neg hpi]
        have h1 := h.1 j hj hj0 hpi
        by_cases hji2 : j = i
        · subst hji2
          rw [if_pos rfl]
          exact h.2 m hm hm0 hpar hj0
        · rw [if_neg hji2]
          exact h1
  · rw [swapE_len] at hj
    rw [swapE_at hi2 hm, swapE_at hi2 hm]
    have h1 := h.1 j hj hj0 (by omega)
    rw [if_neg (by omega), if_pos hpar, if_neg (by omega), if_neg (by omega)]
    rw [hpj] at h1
    exact h1
theorem heap_min {E : List En} (h : HeapB E) : ∀ j, j < E.length → leE (atE E 0) (atE E j) := by
  intro j
  induction j using Nat.strongRecOn with
  | _ j ih =>
    intro hj
    by_cases h0 : j = 0
    · subst h0; exact leE_refl _
    · exact leE_trans (ih ((j - 1) / 2) (by omega) (by omega)) (h j hj (by omega))
theorem heap_least {E : List En} (h : HeapB E) : ∀ e ∈ E, leE (atE E 0) e := fun e he => by
  obtain ⟨j, hj, rfl⟩ := List.getElem_of_mem he
  rw [atE_eq hj]
  exact heap_min h j hj
theorem atE_left {E : List En} {e : En} {k : Nat} (h : k < E.length) : atE (E ++ [e]) k = atE E k := by
  unfold atE
  rw [List.getElem?_append_left h]
theorem heap_push {E : List En} (h : HeapB E) (e : En) : UpI (E ++ [e]) E.length := by
  refine ⟨fun j hj hj0 hne => ?_, fun j hj hj0 hpar _ => ?_⟩
  · have hj' : j < E.length := by simp at hj; omega
    rw [atE_left hj', atE_left (by omega)]
    exact h j hj' hj0
  · simp at hj
    omega
/-- behind the last one's move to the head -/
theorem heap_drop {E : List En} (h : HeapB E) (n : Nat) (hn : E.length = n + 1) : DownI ((swapE E 0 n).take n) 0 := by
  refine ⟨fun j hj hj0 hne => ?_, fun j hj hj0 _ h0 => absurd h0 (by omega)⟩
  have hj' : j < n := by simp [swapE_len] at hj; omega
  rw [take_at (by omega), take_at hj', swapE_at (by omega) (by omega), swapE_at (by omega) (by omega), if_neg (by omega), if_neg hne, if_neg (by omega), if_neg (by omega)]
  exact h j (by omega) hj0
theorem down_up {E : List En} (h : HeapB E) : UpI E 0 := ⟨fun j hj hj0 _ => h j hj hj0, fun j hj hj0 _ h0 => absurd h0 (by omega)⟩
theorem take_swap_perm {E : List En} (n : Nat) (hn : E.length = n + 1) : (atE E 0 :: (swapE E 0 n).take n).Perm E := by
  have h1 := swapE_perm (E := E) (i := 0) (j := n) (by omega) (by omega)
  have h2 : swapE E 0 n = (swapE E 0 n).take n ++ [atE E 0] := by
    have h3 : (swapE E 0 n).drop n = [atE E 0] := by
      rw [List.drop_eq_getElem_cons (by rw [swapE_len]; omega), List.drop_of_length_le (by rw [swapE_len]; omega), atE_eq, swapE_at (by omega) (by omega), if_pos rfl]
    rw [← h3, List.take_append_drop]
  refine (List.perm_append_singleton _ _).symm.trans ?_
  rw [← h2]
  exact h1
end Go.Proofs.Ytlkgmedenbfhkaa
