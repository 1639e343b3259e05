/- Plain: numbers of a kind, rising; one more put in its place. -/
import Derived.Test.YtojccjdldmjfgaaTM2
namespace Go.Proofs.Ytojccjdldmjfgaa

/-- the numbers of a kind below N -/
def fl (q : Nat → Bool) (N : Nat) : List Int := ((List.range N).filter q).map (fun (m : Nat) => (m : Int))
def flFrom (q : Nat → Bool) (s n : Nat) : List Int := ((List.range' s n).filter q).map (fun (m : Nat) => (m : Int))
theorem fl_len (q : Nat → Bool) (N : Nat) : (fl q N).length ≤ N := by
  unfold fl
  rw [List.length_map]
  have := List.length_filter_le q (List.range N)
  simpa using this
theorem fl_mem {q : Nat → Bool} {N : Nat} {x : Int} (h : x ∈ fl q N) : 0 ≤ x ∧ x < N := by
  unfold fl at h
  simp only [List.mem_map, List.mem_filter, List.mem_range] at h
  obtain ⟨m, ⟨h1, _⟩, rfl⟩ := h
  omega
theorem flFrom_mem {q : Nat → Bool} {s n : Nat} {x : Int} (h : x ∈ flFrom q s n) : (s : Int) ≤ x := by
  unfold flFrom at h
  simp only [List.mem_map, List.mem_filter, List.mem_range'_1] at h
  obtain ⟨m, ⟨h1, _⟩, rfl⟩ := h
  omega
theorem fl_split (q : Nat → Bool) {a N : Nat} (h : a < N) : fl q N = fl q a ++ ((if q a then [(a : Int)] else []) ++ flFrom q (a + 1) (N - (a + 1))) := by
  unfold fl flFrom
  have e : List.range N = List.range a ++ (a :: List.range' (a + 1) (N - (a + 1))) := by
    rw [List.range_eq_range', List.range_eq_range', show N = a + ((N - (a + 1)) + 1) by omega, ← List.range'_append_1, List.range'_succ]
    simp
    congr 1
    omega
  rw [e, List.filter_append, List.filter_cons, List.map_append]
  cases q a <;> simp
theorem fl_congr {p q : Nat → Bool} {N : Nat} (h : ∀ m, m < N → p m = q m) : fl p N = fl q N := by
  unfold fl
  congr 1
  exact List.filter_congr (fun m hm => h m (by simpa using hm))
theorem flFrom_congr {p q : Nat → Bool} {s n : Nat} (h : ∀ m, s ≤ m → p m = q m) : flFrom p s n = flFrom q s n := by
  unfold flFrom
  congr 1
  exact List.filter_congr (fun m hm => h m (by have := List.mem_range'_1.1 hm; omega))

def with1 (q : Nat → Bool) (a : Nat) : Nat → Bool := fun m => q m || m == a
/-- where a number stands, or would stand -/
theorem fl_place {q : Nat → Bool} {a N m : Nat} (ha : a < N) (hm : m ≤ (fl q N).length) (hge : ∀ i (hi : i < (fl q N).length), m ≤ i → (a : Int) < (fl q N)[i]) (hlt : m = 0 ∨ ∃ (h : m - 1 < (fl q N).length), (fl q N)[m - 1] ≤ (a : Int)) :
    m = (fl q a ++ (if q a then [(a : Int)] else [])).length := by
  have e := fl_split q ha
  rw [← List.append_assoc] at e
  generalize hL : fl q a ++ (if q a then [(a : Int)] else []) = L at *
  have hLle : ∀ x ∈ L, x ≤ (a : Int) := fun x hx => by
    rw [← hL, List.mem_append] at hx
    rcases hx with hx | hx
    · have := fl_mem hx; omega
    · split at hx <;> simp at hx; omega
  generalize hR : flFrom q (a + 1) (N - (a + 1)) = R at *
  have hRgt : ∀ x ∈ R, (a : Int) < x := fun x hx => by
    rw [← hR] at hx
    have := flFrom_mem hx
    omega
  generalize fl q N = out at *
  subst e
  rcases Nat.lt_trichotomy m L.length with h | h | h
  · have h1 := hge m (by rw [List.length_append]; omega) (Nat.le_refl _)
    rw [List.getElem_append_left h] at h1
    have := hLle _ (List.getElem_mem h)
    omega
  · exact h
  · rcases hlt with h0 | ⟨h1, h2⟩
    · omega
    · rw [List.getElem_append_right (by omega)] at h2
      have h3 : m - 1 - L.length < R.length := by rw [List.length_append] at h1; omega
      have := hRgt _ (List.getElem_mem h3)
      omega
theorem fl_old {q : Nat → Bool} {a N m : Nat} (ha : a < N) (hm : m = (fl q a ++ (if q a then [(a : Int)] else [])).length) (h : m - 1 < (fl q N).length) (h0 : 0 < m) (he : (fl q N)[m - 1] = (a : Int)) : fl (with1 q a) N = fl q N := by
  have hq : q a = true := by
    cases hq : q a
    · have e := fl_split q ha
      rw [hq] at hm e
      simp only [Bool.false_eq_true, if_false, List.append_nil, List.nil_append] at hm e
      have h2 : (fl q N)[m - 1] = (fl q a)[m - 1]'(by omega) := by
        have h3 : (fl q N)[m - 1]? = (fl q a)[m - 1]? := by rw [e, List.getElem?_append_left (by omega)]
        rw [List.getElem?_eq_getElem h, List.getElem?_eq_getElem (by omega)] at h3
        injection h3
      have h4 := fl_mem (List.getElem_mem (l := fl q a) (n := m - 1) (by omega))
      rw [h2] at he
      omega
    · rfl
  refine fl_congr fun k _ => ?_
  unfold with1
  by_cases hk : k = a
  · subst hk; rw [hq]; rfl
  · simp [hk]
theorem fl_new {q : Nat → Bool} {a N m : Nat} (ha : a < N) (hm : m = (fl q a ++ (if q a then [(a : Int)] else [])).length) (hne : m = 0 ∨ ∃ (h : m - 1 < (fl q N).length), (fl q N)[m - 1] ≠ (a : Int)) : fl (with1 q a) N = (fl q N).take m ++ [(a : Int)] ++ (fl q N).drop m := by
  have hq : q a = false := by
    cases hq : q a
    · rfl
    · rw [hq] at hm
      simp only [if_true, List.length_append, List.length_cons, List.length_nil] at hm
      rcases hne with h0 | ⟨h1, h2⟩
      · omega
      · exfalso
        apply h2
        have h3 : (fl q N)[m - 1]? = some (a : Int) := by
          rw [fl_split q ha, hq]
          simp only [if_true]
          rw [List.getElem?_append_right (by omega), show m - 1 - (fl q a).length = 0 by omega]
          rfl
        rw [List.getElem?_eq_getElem h1] at h3
        injection h3
  rw [hq] at hm
  simp only [Bool.false_eq_true, if_false, List.append_nil] at hm
  have e1 := fl_split q ha
  rw [hq] at e1
  simp only [Bool.false_eq_true, if_false, List.nil_append] at e1
  have e2 := fl_split (with1 q a) ha
  have hw : with1 q a a = true := by simp [with1]
  rw [hw] at e2
  simp only [if_true] at e2
  have e3 : fl (with1 q a) a = fl q a := fl_congr fun k hk => by
    unfold with1
    have : ¬ k = a := by omega
    simp [this]
  have e4 : flFrom (with1 q a) (a + 1) (N - (a + 1)) = flFrom q (a + 1) (N - (a + 1)) := flFrom_congr fun k hk => by
    unfold with1
    have : ¬ k = a := by omega
    simp [this]
  rw [e2, e1, e3, e4, hm]
  simp
end Go.Proofs.Ytojccjdldmjfgaa
