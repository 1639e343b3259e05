/- The plain law: translations in the order of their last use; one that was loaded stays while fewer than sixteen others come. -/
import Derived.Test.YtfaddnedlloaiaaBase
namespace Go.Proofs.Ytfaddnedlloaiaa

structure En where
  env : Int
  page : Int
  frame : Int
  write : Bool

def hasK (a p : Int) (e : En) : Bool := e.env == a && e.page == p
theorem hasK_iff {a p : Int} {e : En} : hasK a p e = true ↔ e.env = a ∧ e.page = p := by simp [hasK]
def fi (L : List En) (a p : Int) : Option Nat := L.findIdx? (hasK a p)
def plc (L : List En) (a p : Int) : Int := match fi L a p with
  | some i => (i : Int)
  | none => -1
def goneL (L : List En) (X : En) : List En := match fi L X.env X.page with
  | some i => L.eraseIdx i
  | none => if 16 ≤ L.length then L.eraseIdx 0 else L
def ld (L : List En) (X : En) : List En := goneL L X ++ [X]
def lk (L : List En) (a p : Int) : List En := match fi L a p with
  | some i => L.eraseIdx i ++ (L[i]?).toList
  | none => L
def rightE (e : En) : Bool := decide (0 ≤ e.env ∧ e.env ≤ 7 ∧ 0 ≤ e.page ∧ e.page ≤ 65535 ∧ 0 ≤ e.frame ∧ e.frame ≤ 31)

/-- no two of one page -/
def Uni (L : List En) : Prop := L.Pairwise fun x y => ¬ (x.env = y.env ∧ x.page = y.page)
structure Inv (E : En) (k : Nat) (L : List En) : Prop where
  uni : Uni L
  len : L.length ≤ 16
  at_ : ∃ pre post, L = pre ++ E :: post ∧ post.length ≤ k

theorem fi_none {L : List En} {a p : Int} (h : fi L a p = none) : ∀ e ∈ L, ¬ (e.env = a ∧ e.page = p) := by
  intro e he hk
  have := List.findIdx?_eq_none_iff.1 h e he
  rw [hasK_iff.2 hk] at this
  cases this
theorem fi_some {L : List En} {a p : Int} {i : Nat} (h : fi L a p = some i) : ∃ hi : i < L.length, (L[i].env = a ∧ L[i].page = p) ∧ ∀ j, (hj : j < i) → ¬ (L[j].env = a ∧ L[j].page = p) := by
  obtain ⟨hi, h1, h2⟩ := List.findIdx?_eq_some_iff_getElem.1 h
  refine ⟨hi, hasK_iff.1 h1, fun j hj hk => ?_⟩
  have := h2 j hj
  rw [hasK_iff.2 hk] at this
  simp at this

theorem uni_erase {L : List En} (h : Uni L) (i : Nat) : Uni (L.eraseIdx i) := List.Pairwise.sublist (List.eraseIdx_sublist L i) h
theorem uni_snoc {L : List En} {X : En} (h : Uni L) (hx : ∀ e ∈ L, ¬ (e.env = X.env ∧ e.page = X.page)) : Uni (L ++ [X]) := by
  refine List.pairwise_append.2 ⟨h, List.pairwise_singleton _ _, fun a ha b hb => ?_⟩
  rw [List.mem_singleton] at hb
  subst hb
  exact hx a ha
/-- what is left has no other one of that page -/
theorem uni_left {L : List En} (h : Uni L) {i : Nat} (hi : i < L.length) : ∀ e ∈ L.eraseIdx i, ¬ (e.env = L[i].env ∧ e.page = L[i].page) := by
  intro e he hk
  rw [List.mem_eraseIdx_iff_getElem] at he
  obtain ⟨j, hj, hne, rfl⟩ := he
  have hp := List.pairwise_iff_getElem.1 h
  rcases Nat.lt_or_gt_of_ne hne with hlt | hgt
  · exact hp j i hj hi hlt hk
  · exact hp i j hi hj hgt ⟨hk.1.symm, hk.2.symm⟩

theorem erase_in {E : En} {pre post : List En} {i : Nat} (hi : i < (pre ++ E :: post).length) (hne : i ≠ pre.length) :
    ∃ pre' post', (pre ++ E :: post).eraseIdx i = pre' ++ E :: post' ∧ post'.length ≤ post.length ∧ (pre.length < i → post'.length + 1 = post.length) := by
  rcases Nat.lt_or_gt_of_ne hne with hlt | hgt
  · refine ⟨pre.eraseIdx i, post, ?_, Nat.le_refl _, fun h => absurd h (by omega)⟩
    rw [List.eraseIdx_append_of_lt_length hlt]
  · obtain ⟨m, rfl⟩ : ∃ m, i = pre.length + (m + 1) := ⟨i - pre.length - 1, by omega⟩
    have hm : m < post.length := by simp at hi; omega
    refine ⟨pre, post.eraseIdx m, ?_, List.length_eraseIdx_le _ _, fun _ => ?_⟩
    · rw [List.eraseIdx_append_of_length_le (by omega), show pre.length + (m + 1) - pre.length = m + 1 by omega, List.eraseIdx_cons_succ]
    · rw [List.length_eraseIdx, if_pos hm]; omega

theorem at_E (pre post : List En) (E : En) (h : pre.length < (pre ++ E :: post).length) : (pre ++ E :: post)[pre.length] = E := by
  rw [List.getElem_append_right (Nat.le_refl _)]
  simp

theorem lk_inv {E : En} {k : Nat} {L : List En} {a p : Int} (h : Inv E k L) (hk : ¬ (a = E.env ∧ p = E.page)) : Inv E (k + 1) (lk L a p) := by
  unfold lk
  cases hf : fi L a p with
  | none =>
    obtain ⟨u, l, pre, post, e, hp⟩ := h
    exact ⟨u, l, pre, post, e, by omega⟩
  | some i =>
    obtain ⟨hi, hki, _⟩ := fi_some hf
    simp only [List.getElem?_eq_getElem hi, Option.toList_some]
    obtain ⟨u, l, pre, post, e, hp⟩ := h
    refine ⟨uni_snoc (uni_erase u i) (uni_left u hi), ?_, ?_⟩
    · rw [List.length_append, List.length_eraseIdx, if_pos hi]; simp; omega
    · generalize L[i] = X at *
      subst e
      by_cases hne : i = pre.length
      · subst hne
        have hh := fi_some hf
        obtain ⟨_, hE, _⟩ := hh
        rw [at_E] at hE
        exact absurd ⟨hE.1.symm, hE.2.symm⟩ hk
      · obtain ⟨pre', post', e1, h1, _⟩ := erase_in hi hne
        exact ⟨pre', post' ++ [X], by rw [e1]; simp, by simp; omega⟩

theorem gone_inv {E X : En} {k : Nat} {L : List En} (h : Inv E k L) (hk : ¬ (X.env = E.env ∧ X.page = E.page)) (hk2 : k ≤ 14) : Inv E k (goneL L X) ∧ (∀ e ∈ goneL L X, ¬ (e.env = X.env ∧ e.page = X.page)) ∧ (goneL L X).length ≤ 15 := by
  unfold goneL
  cases hf : fi L X.env X.page with
  | none =>
    simp only
    have hx := fi_none hf
    split
    · rename_i h16
      obtain ⟨u, l, pre, post, e, hp⟩ := h
      refine ⟨⟨uni_erase u 0, by rw [List.length_eraseIdx]; split <;> omega, ?_⟩, fun e he => hx e (List.mem_of_mem_eraseIdx he), by rw [List.length_eraseIdx, if_pos (by omega)]; omega⟩
      subst e
      simp at h16
      obtain ⟨pre', post', e1, h1, _⟩ := erase_in (E := E) (pre := pre) (post := post) (i := 0) (by simp; omega) (by omega)
      exact ⟨pre', post', e1, by omega⟩
    · exact ⟨h, hx, by omega⟩
  | some i =>
    simp only
    obtain ⟨hi, hki, _⟩ := fi_some hf
    obtain ⟨u, l, pre, post, e, hp⟩ := h
    refine ⟨⟨uni_erase u i, by rw [List.length_eraseIdx, if_pos hi]; omega, ?_⟩, ?_, by rw [List.length_eraseIdx, if_pos hi]; omega⟩
    · subst e
      by_cases hne : i = pre.length
      · subst hne
        rw [at_E] at hki
        exact absurd ⟨hki.1.symm, hki.2.symm⟩ hk
      · obtain ⟨pre', post', e1, h1, _⟩ := erase_in hi hne
        exact ⟨pre', post', e1, by omega⟩
    · have := uni_left u hi
      rw [hki.1, hki.2] at this
      exact this
theorem ld_inv {E X : En} {k : Nat} {L : List En} (h : Inv E k L) (hk : ¬ (X.env = E.env ∧ X.page = E.page)) (hk2 : k ≤ 14) : Inv E (k + 1) (ld L X) := by
  obtain ⟨⟨u, l, pre, post, e, hp⟩, h2, h3⟩ := gone_inv h hk hk2
  refine ⟨uni_snoc u h2, by simp [ld]; omega, pre, post ++ [X], ?_, by simp; omega⟩
  rw [ld, e]; simp
/-- a look at what was just loaded moves nothing -/
theorem fi_last {L : List En} {X : En} (h : ∀ e ∈ L, ¬ (e.env = X.env ∧ e.page = X.page)) : fi (L ++ [X]) X.env X.page = some L.length := by
  unfold fi
  rw [List.findIdx?_append, List.findIdx?_eq_none_iff.2 (fun e he => ?_)]
  · simp [List.findIdx?_cons, hasK]
  · cases hc : hasK X.env X.page e with
    | false => rfl
    | true => exact absurd (hasK_iff.1 hc) (h e he)
theorem lk_ld {E X : En} {k : Nat} {L : List En} (h : Inv E k L) (hk : ¬ (X.env = E.env ∧ X.page = E.page)) (hk2 : k ≤ 14) : lk (ld L X) X.env X.page = ld L X := by
  obtain ⟨_, h2, _⟩ := gone_inv h hk hk2
  unfold lk ld
  rw [fi_last h2]
  simp [List.eraseIdx_append_of_length_le]
theorem step_inv {E X : En} {k : Nat} {L : List En} (h : Inv E k L) (hk : ¬ (X.env = E.env ∧ X.page = E.page)) (hk2 : k ≤ 14) : Inv E (k + 1) (lk (ld L X) X.env X.page) := by
  rw [lk_ld h hk hk2]
  exact ld_inv h hk hk2
theorem more_inv {E : En} {k : Nat} {L : List En} (h : Inv E k L) : Inv E (k + 1) L := by
  obtain ⟨u, l, pre, post, e, hp⟩ := h
  exact ⟨u, l, pre, post, e, by omega⟩
theorem new_inv (E : En) : Inv E 0 (ld [] E) := ⟨List.pairwise_singleton _ _, by simp [ld, goneL, fi], [], [], by simp [ld, goneL, fi], by simp⟩
theorem at_last {E : En} {k : Nat} {L : List En} (h : Inv E k L) : ∃ i, fi L E.env E.page = some i ∧ L[i]? = some E := by
  obtain ⟨u, l, pre, post, e, hp⟩ := h
  subst e
  cases hf : fi (pre ++ E :: post) E.env E.page with
  | none => exact absurd ⟨rfl, rfl⟩ (fi_none hf E (by simp))
  | some i =>
    obtain ⟨hi, hk, hj⟩ := fi_some hf
    refine ⟨i, rfl, ?_⟩
    have hp2 := List.pairwise_iff_getElem.1 u
    have hpl : pre.length < (pre ++ E :: post).length := by simp
    rcases Nat.lt_trichotomy i pre.length with h1 | h1 | h1
    · have := hp2 i pre.length hi hpl h1
      rw [at_E] at this
      exact absurd hk this
    · subst h1
      simp
    · have := hj pre.length h1
      rw [at_E] at this
      exact absurd ⟨rfl, rfl⟩ this
end Go.Proofs.Ytfaddnedlloaiaa
