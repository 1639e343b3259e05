/- Plain: tables that keep deadlines: tick by tick, stretch by stretch. -/
import Derived.Test.YtkhbnklaglnfdaaTM1
namespace Go.Proofs.Ytkhbnklaglnfdaa

def tAt (T : List Int) (k : Nat) : Int := T.getD k 0
theorem tAt_eq {T : List Int} {k : Nat} (h : k < T.length) : tAt T k = T[k] := by unfold tAt; rw [List.getD_eq_getElem?_getD, List.getElem?_eq_getElem h]; rfl
/-- how often a number stands in n places from a on -/
def cR (T : List Int) (i : Int) (a : Nat) : Nat → Int
  | 0 => 0
  | n + 1 => cR T i a n + (if tAt T (a + n) = i then 1 else 0)
theorem cR_nonneg (T : List Int) (i : Int) (a : Nat) : ∀ n, 0 ≤ cR T i a n
  | 0 => by simp [cR]
  | n + 1 => by rw [cR]; have := cR_nonneg T i a n; split <;> omega
theorem cR_le (T : List Int) (i : Int) (a : Nat) : ∀ n, cR T i a n ≤ n
  | 0 => by simp [cR]
  | n + 1 => by rw [cR]; have := cR_le T i a n; split <;> omega
theorem cR_mono (T : List Int) (i : Int) (a : Nat) {n m : Nat} (h : n ≤ m) : cR T i a n ≤ cR T i a m := by
  obtain ⟨k, rfl⟩ := Nat.exists_eq_add_of_le h
  clear h
  induction k with
  | zero => simp
  | succ k ih => rw [show n + (k + 1) = (n + k) + 1 by omega, cR]; split <;> omega
theorem cR_flat (T : List Int) (i : Int) (a : Nat) {n : Nat} : ∀ {m : Nat}, n ≤ m → (∀ j, n ≤ j → j < m → tAt T (a + j) ≠ i) → cR T i a m = cR T i a n
  | 0, h, _ => by rw [show n = 0 by omega]
  | m + 1, h, hj => by
    by_cases he : n = m + 1
    · rw [he]
    · rw [cR, if_neg (hj m (by omega) (by omega)), cR_flat T i a (show n ≤ m by omega) (fun j h1 h2 => hj j h1 (by omega))]
      omega

/-- one stretch: a task has just its ticks, all up to the deadline -/
def StrOk (T : List Int) (i : Int) (P D : Nat) (C : Int) (q : Nat) : Prop := (∀ j, j < P → tAt T (q * P + j) = i → j < D) ∧ cR T i (q * P) P = C
def RowOk (T : List Int) (i : Int) (P D : Nat) (C : Int) : Prop := T.length % P = 0 ∧ ∀ q, q < T.length / P → StrOk T i P D C q
def KeepsP (l : List Tk) (T : List Int) : Prop := 1 ≤ T.length ∧ T.length ≤ 4096 ∧ (∀ n (h : n < T.length), T[n] < l.length) ∧ ∀ i (h : i < l.length), RowOk T i l[i].period.toNat l[i].dead.toNat l[i].cost
noncomputable def keepsB (l : List Tk) (T : List Int) : Bool := @decide (KeepsP l T) (Classical.propDecidable _)
theorem keepsB_t {l : List Tk} {T : List Int} (h : KeepsP l T) : keepsB l T = true := @decide_eq_true _ (Classical.propDecidable _) h
theorem keepsB_f {l : List Tk} {T : List Int} (h : ¬ KeepsP l T) : keepsB l T = false := @decide_eq_false _ (Classical.propDecidable _) h
theorem keepsB_get {l : List Tk} {T : List Int} (h : keepsB l T = true) : KeepsP l T := @of_decide_eq_true _ (Classical.propDecidable _) h

/-! the document's: tick by tick -/
def stepK (i : Int) (P D : Nat) (C : Int) (r : Nat) (had x : Int) : Option Int :=
  if x = i then (if D ≤ r ∨ C < (if r = 0 then 0 else had) + 1 then none else if r + 1 = P ∧ (if r = 0 then 0 else had) + 1 ≠ C then none else some ((if r = 0 then 0 else had) + 1))
  else if r + 1 = P ∧ (if r = 0 then 0 else had) ≠ C then none else some (if r = 0 then 0 else had)
/-- what holds ahead of a tick -/
structure Inv (T : List Int) (i : Int) (P D : Nat) (C : Int) (n : Nat) (had : Int) : Prop where
  cnt : n % P ≠ 0 → had = cR T i (n - n % P) (n % P)
  dead : ∀ m, m < n → tAt T m = i → m % P < D
  done : ∀ q, q < n / P → cR T i (q * P) P = C
theorem inv_zero (T : List Int) (i : Int) (P D : Nat) (C : Int) : Inv T i P D C 0 0 := ⟨fun h => absurd (Nat.zero_mod P) h, fun m h => by omega, fun q h => by simp at h⟩
theorem had0_eq {T : List Int} {i : Int} {P D : Nat} {C : Int} {n : Nat} {had : Int} (h : Inv T i P D C n had) : (if n % P = 0 then 0 else had) = cR T i (n - n % P) (n % P) := by
  by_cases h0 : n % P = 0
  · rw [if_pos h0, h0]; rfl
  · rw [if_neg h0, h.cnt h0]
theorem div_same {n P : Nat} (hP : 1 ≤ P) (h : n % P + 1 < P) : (n + 1) % P = n % P + 1 ∧ (n + 1) / P = n / P := by
  have e := Nat.div_add_mod n P
  have h1 : n + 1 = P * (n / P) + (n % P + 1) := by omega
  constructor
  · rw [h1, Nat.mul_add_mod, Nat.mod_eq_of_lt h]
  · rw [h1, Nat.mul_add_div (by omega), Nat.div_eq_of_lt h]
    have h2 := Nat.mul_add_div (show 0 < P by omega) (n / P) (n % P)
    rw [e, Nat.div_eq_of_lt (show n % P < P by omega)] at h2
    omega
theorem div_next {n P : Nat} (hP : 1 ≤ P) (h : n % P + 1 = P) : (n + 1) % P = 0 ∧ (n + 1) / P = n / P + 1 := by
  have e := Nat.div_add_mod n P
  have h1 : n + 1 = P * (n / P + 1) := by rw [Nat.mul_add]; omega
  constructor
  · rw [h1, Nat.mul_mod_right]
  · rw [h1, Nat.mul_div_cancel_left _ (by omega)]
theorem inv_step {T : List Int} {i : Int} {P D : Nat} {C : Int} {n : Nat} {had had' : Int} (hP : 1 ≤ P) (h : Inv T i P D C n had) (hs : stepK i P D C (n % P) had (tAt T n) = some had') : Inv T i P D C (n + 1) had' := by
  have hlt := Nat.mod_lt n (show 0 < P by omega)
  have e := Nat.div_add_mod n P
  have hh := had0_eq h
  have e2 : n - n % P + n % P = n := by have := Nat.mod_le n P; omega
  have hc : cR T i (n - n % P) (n % P + 1) = cR T i (n - n % P) (n % P) + (if tAt T n = i then 1 else 0) := by rw [cR, e2]
  have hnew : had' = cR T i (n - n % P) (n % P + 1) ∧ (tAt T n = i → n % P < D) ∧ (n % P + 1 = P → had' = C) := by
    unfold stepK at hs
    rw [hh] at hs
    rw [hc]
    by_cases hx : tAt T n = i
    · rw [if_pos hx] at hs ⊢
      by_cases h1 : D ≤ n % P ∨ C < cR T i (n - n % P) (n % P) + 1
      · rw [if_pos h1] at hs; cases hs
      · rw [if_neg h1] at hs
        by_cases h2 : n % P + 1 = P ∧ cR T i (n - n % P) (n % P) + 1 ≠ C
        · rw [if_pos h2] at hs; cases hs
        · rw [if_neg h2] at hs
          injection hs with hs
          exact ⟨hs.symm, fun _ => by omega, fun h3 => by omega⟩
    · rw [if_neg hx] at hs ⊢
      by_cases h2 : n % P + 1 = P ∧ cR T i (n - n % P) (n % P) ≠ C
      · rw [if_pos h2] at hs; cases hs
      · rw [if_neg h2] at hs
        injection hs with hs
        exact ⟨by omega, fun h => absurd h hx, fun h3 => by omega⟩
  obtain ⟨n1, n2, n3⟩ := hnew
  have hd : ∀ m, m < n + 1 → tAt T m = i → m % P < D := fun m hm hx => by
    by_cases he : m = n
    · subst he; exact n2 hx
    · exact h.dead m (by omega) hx
  by_cases hend : n % P + 1 = P
  · obtain ⟨a1, a2⟩ := div_next hP hend
    refine ⟨fun h0 => absurd a1 h0, hd, fun q hq => ?_⟩
    rw [a2] at hq
    by_cases he : q = n / P
    · subst he
      have e3 : n / P * P = n - n % P := by rw [Nat.mul_comm]; omega
      rw [e3]
      have := n3 hend
      rw [n1, hend] at this
      exact this
    · exact h.done q (by omega)
  · obtain ⟨a1, a2⟩ := div_same hP (show n % P + 1 < P by omega)
    refine ⟨fun _ => ?_, hd, fun q hq => h.done q (by omega)⟩
    rw [a1, show n + 1 - (n % P + 1) = n - n % P by omega]
    exact n1
theorem inv_end {T : List Int} {i : Int} {P D : Nat} {C : Int} {had : Int} (hP : 1 ≤ P) (hm : T.length % P = 0) (h : Inv T i P D C T.length had) : RowOk T i P D C := by
  refine ⟨hm, fun q hq => ⟨fun j hj hx => ?_, h.done q hq⟩⟩
  have h1 : (q + 1) * P ≤ T.length / P * P := Nat.mul_le_mul_right _ hq
  have h2 := Nat.div_mul_le_self T.length P
  rw [Nat.add_mul] at h1
  have h3 := h.dead (q * P + j) (by omega) hx
  rw [Nat.mul_comm, Nat.mul_add_mod, Nat.mod_eq_of_lt hj] at h3
  exact h3
theorem inv_bad {T : List Int} {i : Int} {P D : Nat} {C : Int} {n : Nat} {had : Int} (hP : 1 ≤ P) (hn : n < T.length) (h : Inv T i P D C n had) (hs : stepK i P D C (n % P) had (tAt T n) = none) : ¬ RowOk T i P D C := by
  rintro ⟨hm, hq⟩
  have hlt := Nat.mod_lt n (show 0 < P by omega)
  have e := Nat.div_add_mod n P
  have hh := had0_eq h
  have hdv : T.length / P * P = T.length := by have := Nat.div_add_mod T.length P; rw [Nat.mul_comm]; omega
  have hql : n / P < T.length / P := by
    rcases Nat.lt_or_ge (n / P) (T.length / P) with h1 | h1
    · exact h1
    · have := Nat.mul_le_mul_right P h1
      rw [hdv, Nat.mul_comm] at this
      omega
  obtain ⟨s1, s2⟩ := hq _ hql
  have e3 : n / P * P = n - n % P := by rw [Nat.mul_comm]; omega
  have e2 : n - n % P + n % P = n := by have := Nat.mod_le n P; omega
  rw [e3] at s1 s2
  have hx1 := s1 (n % P) hlt
  rw [e2] at hx1
  have hc : cR T i (n - n % P) (n % P + 1) = cR T i (n - n % P) (n % P) + (if tAt T n = i then 1 else 0) := by rw [cR, e2]
  have hmn := cR_mono T i (n - n % P) (show n % P + 1 ≤ P by omega)
  unfold stepK at hs
  rw [hh] at hs
  by_cases hx : tAt T n = i
  · rw [if_pos hx] at hs hc
    by_cases h1 : D ≤ n % P ∨ C < cR T i (n - n % P) (n % P) + 1
    · have := hx1 hx
      omega
    · rw [if_neg h1] at hs
      by_cases h2 : n % P + 1 = P ∧ cR T i (n - n % P) (n % P) + 1 ≠ C
      · rw [h2.1, s2] at hc
        omega
      · rw [if_neg h2] at hs; cases hs
  · rw [if_neg hx] at hs hc
    by_cases h2 : n % P + 1 = P ∧ cR T i (n - n % P) (n % P) ≠ C
    · rw [h2.1, s2] at hc
      omega
    · rw [if_neg h2] at hs; cases hs

/-! the program's: one stretch at a time -/
theorem str_bad {T : List Int} {i : Int} {P D : Nat} {C : Int} {q j : Nat} (hj : j < P) (hx : tAt T (q * P + j) = i) (hd : D ≤ j) : ¬ StrOk T i P D C q := fun h => by have := h.1 j hj hx; omega

/-- a job's ticks, however late: P34.5 -/
theorem serve_count {T : List Int} {i : Int} {P D : Nat} {C : Int} (hD : D ≤ P) (h : RowOk T i P D C) (hP : 1 ≤ P) (hT : 1 ≤ T.length) (job : Nat) :
    ∃ q, q < T.length / P ∧ (∀ j, j < D → (job * P + j) % T.length = q * P + j) ∧ cR T i (q * P) D = C := by
  have hdv : T.length / P * P = T.length := by have := Nat.div_add_mod T.length P; rw [h.1] at this; rw [Nat.mul_comm]; omega
  have hpos : 0 < T.length / P := by
    rcases Nat.eq_zero_or_pos (T.length / P) with h0 | h0
    · rw [h0] at hdv; omega
    · exact h0
  refine ⟨job % (T.length / P), Nat.mod_lt _ hpos, fun j hj => ?_, ?_⟩
  · generalize hM : T.length / P = M at *
    have e := Nat.div_add_mod job M
    have hl := Nat.mod_lt job hpos
    have h1 : job * P + j = T.length * (job / M) + (job % M * P + j) := by
      conv => lhs; rw [← e]
      rw [Nat.add_mul, ← hdv, Nat.mul_assoc, Nat.mul_comm (job / M) P, ← Nat.mul_assoc]
      omega
    have h2 : job % M * P + j < T.length := by
      have : (job % M + 1) * P ≤ M * P := Nat.mul_le_mul_right _ hl
      rw [Nat.add_mul] at this
      omega
    rw [h1, Nat.mul_add_mod, Nat.mod_eq_of_lt h2]
  · obtain ⟨s1, s2⟩ := h.2 _ (Nat.mod_lt job hpos)
    rw [← s2]
    exact (cR_flat T i _ hD (fun j h1 h2 hx => by have := s1 j h2 hx; omega)).symm
end Go.Proofs.Ytkhbnklaglnfdaa
