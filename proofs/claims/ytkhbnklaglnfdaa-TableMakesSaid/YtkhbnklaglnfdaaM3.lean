/- Plain: what the making of a table keeps, tick by tick. -/
import Derived.Test.YtkhbnklaglnfdaaM2
import Derived.Test.YtkhbnklaglnfdaaEM2
namespace Go.Proofs.Ytkhbnklaglnfdaa

def tk (l : List Tk) (i : Nat) : Tk := l.getD i ⟨0, 0, 0⟩
def pN (l : List Tk) (i : Nat) : Nat := (tk l i).period.toNat
/-- what a task's job still has to do ahead of a tick, and its deadline -/
def remM (l : List Tk) (T : List Int) (i u : Nat) : Int := (tk l i).cost - cR T i (u / pN l i * pN l i) (u % pN l i)
def dlM (l : List Tk) (i u : Nat) : Int := ((u / pN l i * pN l i : Nat) : Int) + (tk l i).dead
def befM (l : List Tk) (u i' i : Nat) : Prop := dlM l i' u < dlM l i u ∨ (dlM l i' u = dlM l i u ∧ i' < i)
/-- whose a tick is, of the first k tasks -/
def ChM (l : List Tk) (R : Nat → Int) (u k : Nat) (x : Int) : Prop :=
  (x = -1 ∧ ∀ i, i < k → R i ≤ 0) ∨ ∃ i : Nat, i < k ∧ x = i ∧ 0 < R i ∧ ∀ i', i' < k → 0 < R i' → ¬ befM l u i' i

theorem tAt_app {T : List Int} {x : Int} {u : Nat} (h : u < T.length) : tAt (T ++ [x]) u = tAt T u := by
  unfold tAt
  rw [List.getD_eq_getElem?_getD, List.getD_eq_getElem?_getD, List.getElem?_append_left h]
theorem tAt_end {T : List Int} {x : Int} {u : Nat} (h : T.length = u) : tAt (T ++ [x]) u = x := by
  unfold tAt
  rw [List.getD_eq_getElem?_getD, List.getElem?_append_right (by omega), show u - T.length = 0 by omega]
  rfl
theorem cR_app {T : List Int} {x i : Int} {a : Nat} : ∀ {n : Nat}, a + n ≤ T.length → cR (T ++ [x]) i a n = cR T i a n
  | 0, _ => rfl
  | n + 1, h => by rw [cR, cR, cR_app (by omega), tAt_app (by omega)]
theorem mod_sub (u P : Nat) : u - u / P * P = u % P := by have := Nat.div_add_mod u P; rw [Nat.mul_comm]; omega
theorem div_mul_le (u P : Nat) : u / P * P ≤ u := Nat.div_mul_le_self u P

/-- what holds ahead of tick t -/
structure TInv (l : List Tk) (t : Nat) (L D T : List Int) : Prop where
  lT : T.length = t
  lL : L.length = l.length
  lD : D.length = l.length
  ch : ∀ u, u < t → ChM l (fun i => remM l T i u) u l.length (tAt T u)
  done : ∀ i, i < l.length → ∀ q, q * pN l i + pN l i < t → cR T i (q * pN l i) (pN l i) = (tk l i).cost
  early : ∀ i : Nat, i < l.length → ∀ u, u < t → tAt T u = i → ((u % pN l i : Nat) : Int) < (tk l i).dead
  st : ∀ i, i < l.length → ∀ v, t = v + 1 → tAt L i = (tk l i).cost - cR T i (v / pN l i * pN l i) (t - v / pN l i * pN l i) ∧ tAt D i = ((v / pN l i * pN l i : Nat) : Int) + (tk l i).dead
  z : t = 0 → ∀ i, i < l.length → tAt L i = 0
  nn : ∀ i, i < l.length → 0 ≤ tAt L i
/-- what the search at tick t keeps -/
structure IInv (l : List Tk) (t : Nat) (L D T : List Int) (k : Nat) (L' D' : List Int) (f : Int) : Prop where
  lL : L'.length = l.length
  lD : D'.length = l.length
  fst : ∀ i, i < k → tAt L' i = remM l T i t ∧ tAt D' i = dlM l i t ∧ (0 < remM l T i t → (t : Int) < dlM l i t) ∧ 0 ≤ remM l T i t
  don : ∀ i, i < k → ∀ q, q * pN l i + pN l i ≤ t → cR T i (q * pN l i) (pN l i) = (tk l i).cost
  rst : ∀ i, k ≤ i → i < l.length → tAt L' i = tAt L i ∧ tAt D' i = tAt D i
  ch : ChM l (fun i => remM l T i t) t k f
theorem rgt {l : List Tk} {i : Nat} (hl : ∀ t ∈ l, rightT t = true) (hi : i < l.length) : 1 ≤ (tk l i).cost ∧ (tk l i).cost ≤ (tk l i).dead ∧ (tk l i).dead ≤ (pN l i : Int) ∧ 1 ≤ pN l i := by
  have h := rightT_t (hl _ (List.getElem_mem hi))
  unfold pN tk
  rw [getD_tk hi]
  omega
theorem div_prev {v P : Nat} (hP : 1 ≤ P) (h : (v + 1) % P ≠ 0) : (v + 1) / P = v / P := by
  by_cases h1 : v % P + 1 = P
  · exact absurd (div_next hP h1).1 h
  · have := Nat.mod_lt v (show 0 < P by omega)
    exact (div_same hP (by omega)).2
theorem div_prev0 {v P : Nat} (hP : 1 ≤ P) (h : (v + 1) % P = 0) : v / P * P + P = v + 1 := by
  have hm := Nat.mod_lt v (show 0 < P by omega)
  have e := Nat.div_add_mod v P
  rw [Nat.mul_comm] at e
  by_cases h1 : v % P + 1 = P
  · omega
  · have := (div_same (n := v) hP (by omega)).1
    omega

/-- a task that the search comes to: late, or as it should be -/
theorem ent {l : List Tk} {t : Nat} {L D T : List Int} (hl : ∀ t ∈ l, rightT t = true) (h : TInv l t L D T) {i : Nat} (hi : i < l.length) (hn : ¬ (0 < tAt L i ∧ tAt D i ≤ t)) :
    (t % pN l i = 0 → ∀ q, q * pN l i + pN l i ≤ t → cR T i (q * pN l i) (pN l i) = (tk l i).cost) ∧ (t % pN l i ≠ 0 → tAt L i = remM l T i t ∧ tAt D i = dlM l i t) := by
  have hr := rgt hl hi
  cases t with
  | zero => exact ⟨fun _ q hq => by omega, fun h0 => absurd (Nat.zero_mod _) h0⟩
  | succ v =>
    obtain ⟨s1, s2⟩ := h.st i hi v rfl
    refine ⟨fun h0 q hq => ?_, fun h0 => ?_⟩
    · by_cases hlt : q * pN l i + pN l i < v + 1
      · exact h.done i hi q hlt
      · have e := div_prev0 hr.2.2.2 h0
        have hqe : q = v / pN l i := by
          have h9 : q * pN l i = v / pN l i * pN l i := by omega
          exact Nat.eq_of_mul_eq_mul_right (by omega) h9
        subst hqe
        have hnn := h.nn i hi
        have e2 : v + 1 - v / pN l i * pN l i = pN l i := by omega
        rw [e2] at s1
        have : tAt D i ≤ ((v + 1 : Nat) : Int) := by rw [s2]; omega
        omega
    · have e := div_prev hr.2.2.2 h0
      rw [← e] at s1 s2
      unfold remM dlM
      rw [← mod_sub]
      exact ⟨s1, s2⟩
theorem pick_ch {l : List Tk} {t k : Nat} {T L' D' : List Int} {f : Int} (hf : ChM l (fun i => remM l T i t) t k f) (h1 : ∀ i, i ≤ k → tAt L' i = remM l T i t ∧ tAt D' i = dlM l i t) : ChM l (fun i => remM l T i t) t (k + 1) (pickM L' D' k f) := by
  have hk := h1 k (Nat.le_refl _)
  unfold pickM
  by_cases hc : 0 < tAt L' k ∧ (f < 0 ∨ tAt D' k < tAt D' f.toNat)
  · rw [if_pos hc]
    refine .inr ⟨k, by omega, rfl, by show 0 < remM l T k t; rw [← hk.1]; exact hc.1, fun i' hi' hp => ?_⟩
    rcases hf with ⟨_, h3⟩ | ⟨i, hi, rfl, h4, h5⟩
    · by_cases he : i' = k
      · subst he; unfold befM; omega
      · have : remM l T i' t ≤ 0 := h3 i' (by omega)
        have hp : 0 < remM l T i' t := hp
        omega
    · have h6 : dlM l k t < dlM l i t := by
        rcases hc.2 with h7 | h7
        · omega
        · rw [Int.toNat_natCast, hk.2, (h1 i (by omega)).2] at h7; exact h7
      by_cases he : i' = k
      · subst he; unfold befM; omega
      · have h8 := h5 i' (by omega) hp
        unfold befM at *
        omega
  · rw [if_neg hc]
    rcases hf with ⟨h2, h3⟩ | ⟨i, hi, rfl, h4, h5⟩
    · refine .inl ⟨h2, fun i hi => ?_⟩
      by_cases he : i = k
      · subst he
        show remM l T i t ≤ 0
        rw [← hk.1]
        have : ¬ 0 < tAt L' i := fun h => hc ⟨h, .inl (by omega)⟩
        omega
      · exact h3 i (by omega)
    · refine .inr ⟨i, by omega, rfl, h4, fun i' hi' hp => ?_⟩
      by_cases he : i' = k
      · subst he
        have hp : 0 < remM l T i' t := hp
        have : ¬ tAt D' i' < tAt D' i := fun h => hc ⟨by rw [hk.1]; exact hp, .inr (by rw [Int.toNat_natCast]; exact h)⟩
        rw [hk.2, (h1 i (by omega)).2] at this
        unfold befM
        omega
      · exact h5 i' (by omega) hp

theorem inn_inv {l : List Tk} {t : Nat} {L D T : List Int} (hl : ∀ t ∈ l, rightT t = true) (h : TInv l t L D T) : ∀ {k : Nat} {L' D' : List Int} {f : Int}, k ≤ l.length → innM l t L D k = some (L', D', f) → IInv l t L D T k L' D' f
  | 0, L', D', f, _, hs => by
    injection hs with hs
    injection hs with e1 e2
    injection e2 with e2 e3
    subst e1 e2 e3
    exact ⟨h.lL, h.lD, fun i hi => absurd hi (Nat.not_lt_zero _), fun i hi => absurd hi (Nat.not_lt_zero _), fun i _ _ => ⟨rfl, rfl⟩, .inl ⟨rfl, fun i hi => absurd hi (Nat.not_lt_zero _)⟩⟩
  | k + 1, L', D', f, hk, hs => by
    rw [innM] at hs
    cases hm : innM l t L D k with
    | none => rw [hm] at hs; cases hs
    | some x =>
      obtain ⟨L1, D1, f1⟩ := x
      rw [hm] at hs
      simp only at hs
      have ih := inn_inv hl h (show k ≤ l.length by omega) hm
      have hkl : k < l.length := by omega
      have hr := rgt hl hkl
      obtain ⟨r1, r2⟩ := ih.rst k (Nat.le_refl _) hkl
      unfold stepM at hs
      by_cases hlate : 0 < tAt L1 k ∧ tAt D1 k ≤ t
      · rw [if_pos hlate] at hs; cases hs
      · rw [if_neg hlate] at hs
        have hE := ent hl h hkl (by rw [← r1, ← r2]; exact hlate)
        have hper : (l.getD k ⟨0, 0, 0⟩).period = ((pN l k : Nat) : Int) := by
          have : (l.getD k ⟨0, 0, 0⟩) = tk l k := rfl
          rw [this]
          have := hr.2.2.2
          unfold pN at this ⊢
          omega
        rw [hper] at hs
        by_cases h0 : t % pN l k = 0
        · rw [if_pos (by omega)] at hs
          injection hs with hs
          injection hs with e1 e2
          injection e2 with e2 e3
          subst e1 e2 e3
          have hrem : remM l T k t = (tk l k).cost := by unfold remM; rw [h0]; simp [cR]
          have hdl : dlM l k t = t + (tk l k).dead := by
            unfold dlM
            have := mod_sub t (pN l k)
            have := div_mul_le t (pN l k)
            rw [h0] at *
            rw [show t / pN l k * pN l k = t by omega]
          have f1' : ∀ i, i < k + 1 → tAt (L1.set k (tk l k).cost) i = remM l T i t ∧ tAt (D1.set k (t + (tk l k).dead)) i = dlM l i t := fun i hi => by
            rw [tAt_set (by rw [ih.lL]; exact hkl), tAt_set (by rw [ih.lD]; exact hkl)]
            by_cases he : k = i
            · subst he; rw [if_pos rfl, if_pos rfl, hrem, hdl]; exact ⟨rfl, rfl⟩
            · rw [if_neg he, if_neg he]
              have := ih.fst i (by omega)
              exact ⟨this.1, this.2.1⟩
          refine ⟨by rw [List.length_set]; exact ih.lL, by rw [List.length_set]; exact ih.lD, fun i hi => ⟨(f1' i hi).1, (f1' i hi).2, ?_⟩, fun i hi => ?_, fun i h1 h2 => ?_, pick_ch ih.ch (fun i hi => f1' i (by omega))⟩
          · by_cases he : i = k
            · subst he; rw [hrem, hdl]; exact ⟨fun _ => by omega, by omega⟩
            · exact (ih.fst i (by omega)).2.2
          · by_cases he : i = k
            · subst he; exact hE.1 h0
            · exact ih.don i (by omega)
          · rw [tAt_set (by rw [ih.lL]; exact hkl), tAt_set (by rw [ih.lD]; exact hkl), if_neg (by omega), if_neg (by omega)]
            exact ih.rst i (by omega) h2
        · rw [if_neg (by omega)] at hs
          injection hs with hs
          injection hs with e1 e2
          injection e2 with e2 e3
          subst e1 e2 e3
          have hE2 := hE.2 h0
          rw [← r1, ← r2] at hE2
          have f1' : ∀ i, i < k + 1 → tAt L1 i = remM l T i t ∧ tAt D1 i = dlM l i t := fun i hi => by
            by_cases he : i = k
            · subst he; exact hE2
            · have := ih.fst i (by omega)
              exact ⟨this.1, this.2.1⟩
          refine ⟨ih.lL, ih.lD, fun i hi => ⟨(f1' i hi).1, (f1' i hi).2, ?_⟩, fun i hi => ?_, fun i h1 h2 => ih.rst i (by omega) h2, pick_ch ih.ch (fun i hi => f1' i (by omega))⟩
          · by_cases he : i = k
            · subst he
              rw [← hE2.1, ← hE2.2]
              refine ⟨fun h1 => ?_, ?_⟩
              · have : ¬ tAt D1 i ≤ t := fun h2 => hlate ⟨h1, h2⟩
                omega
              · rw [r1]; exact h.nn i hkl
            · exact (ih.fst i (by omega)).2.2
          · by_cases he : i = k
            · subst he
              intro q hq
              by_cases hlt : q * pN l i + pN l i < t
              · exact h.done i hkl q hlt
              · exfalso
                have : t = (q + 1) * pN l i := by rw [Nat.add_mul]; omega
                rw [this, Nat.mul_mod_left] at h0
                exact h0 rfl
            · exact ih.don i (by omega)

theorem remM_app {l : List Tk} {T : List Int} {x : Int} {i u : Nat} (h : u ≤ T.length) : remM l (T ++ [x]) i u = remM l T i u := by
  unfold remM
  rw [cR_app (by have := mod_sub u (pN l i); have := div_mul_le u (pN l i); omega)]
theorem less_at {L : List Int} {f : Int} {n i : Nat} (hL : L.length = n) (hf : f < n) : tAt (lessM L f) i = tAt L i - (if f = (i : Int) then 1 else 0) := by
  unfold lessM
  by_cases h : 0 ≤ f
  · rw [if_pos h, tAt_set (by omega)]
    by_cases he : f.toNat = i
    · rw [if_pos he, if_pos (by omega), he]
    · rw [if_neg he, if_neg (by omega)]; omega
  · rw [if_neg h, if_neg (by omega)]; omega
theorem run_step {l : List Tk} {t : Nat} {L D T L' D' : List Int} {f : Int} (hl : ∀ t ∈ l, rightT t = true) (h : TInv l t L D T) (hi : IInv l t L D T l.length L' D' f) : TInv l (t + 1) (lessM L' f) D' (T ++ [f]) := by
  have hT := h.lT
  have hflt : f < l.length := by
    rcases hi.ch with ⟨h1, _⟩ | ⟨i, h1, h2, _⟩ <;> omega
  have hcr : ∀ i : Nat, cR (T ++ [f]) i (t / pN l i * pN l i) (t + 1 - t / pN l i * pN l i) = cR T i (t / pN l i * pN l i) (t % pN l i) + (if f = (i : Int) then 1 else 0) := fun i => by
    have h1 := mod_sub t (pN l i)
    have h2 := div_mul_le t (pN l i)
    rw [show t + 1 - t / pN l i * pN l i = t % pN l i + 1 by omega, cR, cR_app (by omega), show t / pN l i * pN l i + t % pN l i = t by omega, tAt_end hT]
  refine ⟨by simp [hT], ?_, hi.lD, fun u hu => ?_, fun i hil q hq => ?_, fun i hil u hu hx => ?_, fun i hil v hv => ?_, fun h0 => by omega, fun i hil => ?_⟩
  · unfold lessM
    split
    · rw [List.length_set]; exact hi.lL
    · exact hi.lL
  · have e : (fun i => remM l (T ++ [f]) i u) = fun i => remM l T i u := by funext i; exact remM_app (by omega)
    rw [e]
    by_cases he : u = t
    · subst he; rw [tAt_end hT]; exact hi.ch
    · rw [tAt_app (by omega)]; exact h.ch u (by omega)
  · rw [cR_app (by omega)]
    exact hi.don i hil q (by omega)
  · by_cases he : u = t
    · subst he
      rw [tAt_end hT] at hx
      rcases hi.ch with ⟨h1, _⟩ | ⟨j, h1, h2, h3, _⟩
      · omega
      · obtain rfl : j = i := by omega
        have := (hi.fst j hil).2.2.1 h3
        unfold dlM at this
        have h4 := mod_sub u (pN l j)
        have h5 := div_mul_le u (pN l j)
        omega
    · rw [tAt_app (by omega)] at hx
      exact h.early i hil u (by omega) hx
  · obtain rfl : v = t := by omega
    rw [less_at hi.lL hflt, hcr i]
    have h1 := hi.fst i hil
    refine ⟨?_, h1.2.1⟩
    have := h1.1
    unfold remM at this
    omega
  · rw [less_at hi.lL hflt]
    have h1 := hi.fst i hil
    by_cases he : f = (i : Int)
    · rw [if_pos he]
      rcases hi.ch with ⟨h2, _⟩ | ⟨j, h3, h2, h4, _⟩
      · omega
      · obtain rfl : j = i := by omega
        have h4 : 0 < remM l T j t := h4
        omega
    · rw [if_neg he]; omega
theorem run_inv {l : List Tk} (hl : ∀ t ∈ l, rightT t = true) : ∀ {t : Nat} {L D T : List Int}, runM l t = some (L, D, T) → TInv l t L D T
  | 0, L, D, T, hs => by
    injection hs with hs
    injection hs with e1 e2
    injection e2 with e2 e3
    subst e1 e2 e3
    have hz : ∀ i, i < l.length → tAt (List.replicate l.length 0) i = 0 := fun i hi => by unfold tAt; simp [hi]
    exact ⟨rfl, List.length_replicate, List.length_replicate, fun u hu => absurd hu (Nat.not_lt_zero _), fun i _ q hq => absurd hq (Nat.not_lt_zero _), fun i _ u hu => absurd hu (Nat.not_lt_zero _), fun i _ v hv => by omega, fun _ => hz, fun i hi => by rw [hz i hi]; exact Int.le_refl _⟩
  | t + 1, L, D, T, hs => by
    rw [runM] at hs
    cases hm : runM l t with
    | none => rw [hm] at hs; cases hs
    | some x =>
      obtain ⟨L1, D1, T1⟩ := x
      rw [hm] at hs
      simp only at hs
      have ih := run_inv hl hm
      cases hi : innM l t L1 D1 l.length with
      | none => rw [hi] at hs; cases hs
      | some y =>
        obtain ⟨L2, D2, f⟩ := y
        rw [hi] at hs
        simp only at hs
        injection hs with hs
        injection hs with e1 e2
        injection e2 with e2 e3
        subst e1 e2 e3
        exact run_step hl ih (inn_inv hl ih (Nat.le_refl _) hi)
/-- where a search ends early, a job is late -/
theorem inn_late {l : List Tk} {t : Nat} {L D T : List Int} (hl : ∀ t ∈ l, rightT t = true) (h : TInv l t L D T) : ∀ {k : Nat}, k ≤ l.length → innM l t L D k = none → ∃ i, i < l.length ∧ 0 < tAt L i ∧ tAt D i ≤ t
  | 0, _, hs => by cases hs
  | k + 1, hk, hs => by
    rw [innM] at hs
    cases hm : innM l t L D k with
    | none => exact inn_late hl h (show k ≤ l.length by omega) hm
    | some x =>
      obtain ⟨L1, D1, f1⟩ := x
      rw [hm] at hs
      simp only at hs
      have ih := inn_inv hl h (show k ≤ l.length by omega) hm
      obtain ⟨r1, r2⟩ := ih.rst k (Nat.le_refl _) (by omega)
      unfold stepM at hs
      by_cases hlate : 0 < tAt L1 k ∧ tAt D1 k ≤ t
      · rw [r1, r2] at hlate
        exact ⟨k, by omega, hlate⟩
      · rw [if_neg hlate] at hs
        split at hs <;> cases hs
end Go.Proofs.Ytkhbnklaglnfdaa
