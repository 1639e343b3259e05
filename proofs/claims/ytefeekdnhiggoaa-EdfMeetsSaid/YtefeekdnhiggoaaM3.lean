/- Plain: the first stretch that has too much to do. -/
import Derived.Test.YtefeekdnhiggoaaM2
namespace Go.Proofs.Ytefeekdnhiggoaa

/-- what the first m jobs that come at f or later cost by the deadline d -/
def costTo (l : List Job) (f d : Int) : Nat → Int
  | 0 => 0
  | k + 1 => costTo l f d k + match l[k]? with | some j => (if f ≤ j.come ∧ j.dead = d then j.cost else 0) | none => 0
theorem cost_succ (l : List Job) (f d : Int) (k : Nat) (h : k < l.length) : costTo l f d (k + 1) = costTo l f d k + (if f ≤ l[k].come ∧ l[k].dead = d then l[k].cost else 0) := by
  rw [costTo, List.getElem?_eq_getElem h]
theorem load_step (l : List Job) (f t : Int) : ∀ k, k ≤ l.length → loadTo l f (t + 1) k = loadTo l f t k + costTo l f (t + 1) k
  | 0, _ => rfl
  | k + 1, h => by
    have ih := load_step l f t k (by omega)
    rw [load_succ l f (t + 1) k (by omega), load_succ l f t k (by omega), cost_succ l f (t + 1) k (by omega), ih]
    unfold inJ
    by_cases h1 : f ≤ l[k].come
    · by_cases h2 : l[k].dead ≤ t
      · rw [if_pos ⟨h1, by omega⟩, if_pos ⟨h1, h2⟩, if_neg (by omega)]; omega
      · by_cases h3 : l[k].dead = t + 1
        · rw [if_pos ⟨h1, by omega⟩, if_neg (by omega), if_pos ⟨h1, h3⟩]; omega
        · rw [if_neg (by omega), if_neg (by omega), if_neg (by omega)]; omega
    · rw [if_neg (by omega), if_neg (by omega), if_neg (by omega)]; omega
theorem load_none (l : List Job) (hok : ∀ j ∈ l, okJ j = true) (f : Int) : ∀ k, k ≤ l.length → loadTo l f f k = 0
  | 0, _ => rfl
  | k + 1, h => by
    have hk := okJ_t (hok l[k] (List.getElem_mem (by omega)))
    rw [load_succ l f f k (by omega), load_none l hok f k (by omega)]
    unfold inJ
    rw [if_neg (by omega)]; rfl
theorem cost_bd (l : List Job) (hok : ∀ j ∈ l, okJ j = true) (f d : Int) : ∀ k, k ≤ l.length → 0 ≤ costTo l f d k ∧ costTo l f d k ≤ 1024 * (k : Int)
  | 0, _ => ⟨Int.le_refl _, by simp [costTo]⟩
  | k + 1, h => by
    have hk := okJ_t (hok l[k] (List.getElem_mem (by omega)))
    have ih := cost_bd l hok f d k (by omega)
    rw [cost_succ l f d k (by omega)]
    split <;> omega
theorem load_bd (l : List Job) (hok : ∀ j ∈ l, okJ j = true) (f t : Int) : ∀ k, k ≤ l.length → 0 ≤ loadTo l f t k ∧ loadTo l f t k ≤ 1024 * (k : Int)
  | 0, _ => ⟨Int.le_refl _, by simp [loadTo]⟩
  | k + 1, h => by
    have hk := okJ_t (hok l[k] (List.getElem_mem (by omega)))
    have ih := load_bd l hok f t k (by omega)
    rw [load_succ l f t k (by omega)]
    unfold inJ
    split <;> omega

def overP (l : List Job) (f t : Nat) : Prop := (t : Int) - f < loadTo l f t l.length
/-- the first stretch, by its beginning, then by its end -/
def FirstOver (l : List Job) (T : Nat) (a b : Int) (ok : Bool) : Prop :=
  (ok = false ∧ a = 0 ∧ b = 0 ∧ ∀ f t : Nat, f < t → t ≤ T → ¬ overP l f t) ∨
  (ok = true ∧ ∃ f t : Nat, a = f ∧ b = t ∧ f < t ∧ t ≤ T ∧ overP l f t ∧ (∀ f' t' : Nat, f' < f → f' < t' → t' ≤ T → ¬ overP l f' t') ∧ (∀ t' : Nat, f < t' → t' < t → ¬ overP l f t'))
theorem first_unique (l : List Job) (T : Nat) (a b a' b' : Int) (ok ok' : Bool) (h : FirstOver l T a b ok) (h' : FirstOver l T a' b' ok') : a = a' ∧ b = b' ∧ ok = ok' := by
  rcases h with ⟨rfl, rfl, rfl, h⟩ | ⟨rfl, f, t, rfl, rfl, h1, h2, h3, h4, h5⟩
  · rcases h' with ⟨rfl, rfl, rfl, h'⟩ | ⟨rfl, f, t, rfl, rfl, g1, g2, g3, g4, g5⟩
    · exact ⟨rfl, rfl, rfl⟩
    · exact absurd g3 (h f t g1 g2)
  · rcases h' with ⟨rfl, rfl, rfl, h'⟩ | ⟨rfl, f', t', rfl, rfl, g1, g2, g3, g4, g5⟩
    · exact absurd h3 (h' f t h1 h2)
    · have hf : f = f' := by
        rcases Nat.lt_trichotomy f f' with hlt | he | hlt
        · exact absurd h3 (g4 f t hlt h1 h2)
        · exact he
        · exact absurd g3 (h4 f' t' hlt g1 g2)
      subst hf
      have ht : t = t' := by
        rcases Nat.lt_trichotomy t t' with hlt | he | hlt
        · exact absurd h3 (g5 t h1 hlt)
        · exact he
        · exact absurd g3 (h5 t' g1 hlt)
      subst ht
      exact ⟨rfl, rfl, rfl⟩
theorem first_noOver (l : List Job) (T : Nat) (hT : endJ l = (T : Int)) (a b : Int) (ok : Bool) (h : FirstOver l T a b ok) : ok = false ↔ NoOver l := by
  unfold NoOver
  rcases h with ⟨rfl, rfl, rfl, h⟩ | ⟨rfl, f, t, rfl, rfl, h1, h2, h3, h4, h5⟩
  · refine ⟨fun _ x y hxy hy => ?_, fun _ => rfl⟩
    have := h x y hxy (by omega)
    unfold overP at this
    omega
  · refine ⟨(fun h => by cases h), fun h => ?_⟩
    have := h f t h1 (by omega)
    unfold overP at h3
    omega

/-- only a deadline can end the least of them -/
theorem over_dead (l : List Job) (hok : ∀ j ∈ l, okJ j = true) (f t : Nat) (hft : f < t) (h : overP l f t) (hmin : ∀ t' : Nat, f < t' → t' < t → ¬ overP l f t') : ∃ (k : Nat) (hk : k < l.length), l[k].dead = t := by
  by_cases hex : ∃ (k : Nat) (hk : k < l.length), l[k].dead = t
  · exact hex
  · exfalso
    have hz : ∀ k, k ≤ l.length → costTo l f t k = 0 := fun k => by
      induction k with
      | zero => intro _; rfl
      | succ k ih =>
        intro hk
        rw [cost_succ l f t k (by omega), ih (by omega), if_neg (fun h => hex ⟨k, by omega, h.2⟩)]
        rfl
    have hst := load_step l f ((t : Int) - 1) l.length (Nat.le_refl _)
    rw [show (t : Int) - 1 + 1 = t by omega, hz l.length (Nat.le_refl _)] at hst
    unfold overP at h
    by_cases he : t = f + 1
    · subst he
      have := load_none l hok f l.length (Nat.le_refl _)
      rw [show ((f + 1 : Nat) : Int) - 1 = f by omega, this] at hst
      omega
    · have hm := hmin (t - 1) (by omega) (by omega)
      unfold overP at hm
      rw [show ((t - 1 : Nat) : Int) = (t : Int) - 1 by omega] at hm
      omega
end Go.Proofs.Ytefeekdnhiggoaa
