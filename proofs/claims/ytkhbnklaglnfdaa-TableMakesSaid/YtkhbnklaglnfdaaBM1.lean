/- Plain: first numbers; how long a set keeps a processor busy; deadlines by rank. -/
import Derived.Test.YtkhbnklaglnfdaaTM2
namespace Go.Proofs.Ytkhbnklaglnfdaa.Busy

def firstO (p : Nat → Bool) (c : Nat) : Option Nat := (List.range c).find? p
theorem firstO_hit {p : Nat → Bool} {c n : Nat} (hn : n < c) (hp : p n = true) (hm : ∀ m, m < n → p m = false) : firstO p c = some n := by
  unfold firstO
  induction c with
  | zero => omega
  | succ c ih =>
    rw [List.range_succ, List.find?_append]
    by_cases he : n = c
    · subst he
      rw [List.find?_eq_none.2 (fun x hx => by have := hm x (by simpa using hx); simp [this])]
      simp [hp]
    · rw [ih (by omega)]; rfl
theorem firstO_none {p : Nat → Bool} {c : Nat} (hm : ∀ m, m < c → p m = false) : firstO p c = none :=
  List.find?_eq_none.2 (fun x hx => by have := hm x (by simpa using hx); simp [this])
theorem firstO_some {p : Nat → Bool} {c n : Nat} (h : firstO p c = some n) : n < c ∧ p n = true ∧ ∀ m, m < n → p m = false := by
  have h1 := List.find?_some h
  have h2 := List.mem_of_find?_eq_some h
  refine ⟨by simpa using h2, h1, fun m hm => ?_⟩
  cases hp : p m
  · rfl
  · have h3 : ∃ k, k ≤ m ∧ p k = true ∧ ∀ j, j < k → p j = false := by
      clear h h1 h2 hm
      induction m using Nat.strongRecOn with
      | _ m ih =>
        by_cases h : ∃ j, j < m ∧ p j = true
        · obtain ⟨j, hj, hpj⟩ := h
          obtain ⟨k, hk, hk2⟩ := ih j hj hpj
          exact ⟨k, by omega, hk2⟩
        · exact ⟨m, Nat.le_refl _, hp, fun j hj => by cases hq : p j; rfl; exact absurd ⟨j, hj, hq⟩ h⟩
    obtain ⟨k, hk, hpk, hj⟩ := h3
    have h5 : n < c := by simpa using h2
    have h4 := firstO_hit (c := c) (show k < c by omega) hpk hj
    rw [h] at h4
    injection h4 with h4
    omega

theorem req1_mono {t : Tk} (h : rightT t = true) {m n : Int} (hmn : m ≤ n) : req1 t m ≤ req1 t n := by
  have hr := rightT_t h
  unfold req1
  exact Int.mul_le_mul_of_nonneg_left (Int.ediv_le_ediv (by omega) (by omega)) (by omega)
theorem reqL_mono {l : List Tk} (hr : ∀ t ∈ l, rightT t = true) {m n : Int} (hmn : m ≤ n) : reqL l m ≤ reqL l n := sumF_le (fun t ht => req1_mono (hr t ht) hmn)

def fixP (cost : Int) (l : List Tk) (n : Nat) : Bool := decide (1 ≤ n) && decide (cost + reqL l (n : Int) = (n : Int))
def fixV (cost : Int) (l : List Tk) (most : Int) : Nat := (firstO (fixP cost l) (most.toNat + 1)).getD 0
theorem fixP_t {cost : Int} {l : List Tk} {n : Nat} (h : fixP cost l n = true) : 1 ≤ n ∧ cost + reqL l n = n := by
  unfold fixP at h
  simpa using h
theorem fixV_hit {cost : Int} {l : List Tk} {n : Nat} {most : Int} (hn : (n : Int) ≤ most) (h1 : 1 ≤ n) (h2 : cost + reqL l n = n) (hm : ∀ m : Nat, m < n → fixP cost l m = false) : fixV cost l most = n := by
  unfold fixV
  rw [firstO_hit (show n < most.toNat + 1 by omega) (by unfold fixP; simp [h1, h2]) hm]
  rfl
theorem fixV_none {cost : Int} {l : List Tk} {most : Int} (hm : ∀ m : Nat, (m : Int) ≤ most → fixP cost l m = false) : fixV cost l most = 0 := by
  unfold fixV
  rw [firstO_none (fun m h => by
    by_cases h0 : m = 0
    · subst h0; simp [fixP]
    · exact hm m (by omega))]
  rfl
theorem fixV_pos {cost : Int} {l : List Tk} {most : Int} (h : 0 < fixV cost l most) : cost + reqL l (fixV cost l most : Nat) = (fixV cost l most : Nat) ∧ (fixV cost l most : Int) ≤ most ∧ 1 ≤ fixV cost l most := by
  unfold fixV at h ⊢
  cases hf : firstO (fixP cost l) (most.toNat + 1) with
  | none => rw [hf] at h; simp at h
  | some n =>
    obtain ⟨h1, h2, _⟩ := firstO_some hf
    have h3 := fixP_t h2
    exact ⟨h3.2, by simp; omega, h3.1⟩
/-- no number below the next try is one -/
theorem fix_jump {cost : Int} {l : List Tk} (hr : ∀ t ∈ l, rightT t = true) {n k : Nat} (hm : ∀ m : Nat, m < n → fixP cost l m = false) (hne : ¬ cost + reqL l n = n) (hk : (k : Int) = max ((n : Int) + 1) (cost + reqL l n)) : ∀ m : Nat, m < k → fixP cost l m = false := by
  intro m hmk
  by_cases h1 : m < n
  · exact hm m h1
  · cases hp : fixP cost l m
    · rfl
    · have h2 := fixP_t hp
      have h3 := reqL_mono hr (show (n : Int) ≤ m by omega)
      by_cases he : m = n
      · subst he; exact absurd h2.2 hne
      · omega
theorem fix_nil (most : Int) : fixV 0 [] most = 0 := fixV_none (fun m _ => by
  cases hp : fixP 0 [] m
  · rfl
  · have := fixP_t hp
    simp [reqL, sumF] at this
    omega)
theorem fix_none0 (cost : Int) (l : List Tk) {most : Int} (h : most < 1) : fixV cost l most = 0 := fixV_none (fun m hm => by
  obtain rfl : m = 0 := by omega
  rfl)

def okN (l : List Tk) (n : Int) : Bool := allT l && decide (0 ≤ n ∧ n ≤ 1048576)
def lenV (l : List Tk) (n : Int) : Nat := if okN l n then fixV 0 l n else 0
def respV (l : List Tk) (t : Tk) (n : Int) : Nat := if okN l n && rightT t then fixV t.cost l n else 0
def badV (l : List Tk) (n : Int) : Nat := if okN l n then (firstO (fun m => badP l (m : Int)) (n.toNat + 1)).getD 0 else 0
theorem bad_hit {l : List Tk} {u n : Nat} (hok : okN l u = true) (hn : n ≤ u) (h : badP l (n : Int) = true) (hm : ∀ m : Nat, m < n → badP l (m : Int) = false) : badV l u = n := by
  unfold badV
  rw [hok, firstO_hit (show n < (u : Int).toNat + 1 by omega) h hm]
  rfl
theorem bad_none {l : List Tk} {u : Nat} (hok : okN l u = true) (hm : ∀ m : Nat, m < u + 1 → badP l (m : Int) = false) : badV l u = 0 := by
  unfold badV
  rw [hok, firstO_none (fun m h => hm m (by omega))]
  rfl
theorem bad_ref {l : List Tk} (hr : ∀ t ∈ l, rightT t = true) {u : Nat} (hok : okN l u = true) : (badV l u : Int) = ((ptsTo l (u + 1)).find? (badP l)).getD 0 := by
  rw [bad_find hr]
  unfold badV
  rw [hok]
  simp only [if_true]
  show ((Option.getD (firstO (fun m => badP l (m : Int)) ((u : Int).toNat + 1)) 0 : Nat) : Int) = _
  rw [Int.toNat_natCast]
  unfold firstO
  cases (List.range (u + 1)).find? (fun (m : Nat) => badP l (m : Int)) <;> rfl
theorem bad_pos {l : List Tk} {n : Int} (hr : ∀ t ∈ l, rightT t = true) (h : 0 < badV l n) : badP l (badV l n : Nat) = true ∧ (badV l n : Int) ≤ n ∧ ∀ m : Nat, m < badV l n → badP l (m : Int) = false := by
  unfold badV at h ⊢
  cases hok : okN l n
  · rw [hok] at h; simp at h
  · rw [hok] at h
    simp only [if_true] at h ⊢
    cases hf : firstO (fun m => badP l (m : Int)) (n.toNat + 1) with
    | none => rw [hf] at h; simp at h
    | some m =>
      obtain ⟨h1, h2, h3⟩ := firstO_some hf
      rw [hf] at h
      simp only [Option.getD_some] at h ⊢
      exact ⟨h2, by omega, h3⟩

/-- what is asked for within n and x ticks -/
theorem dem_shift1 {t : Tk} (h : rightT t = true) {n x : Int} (hn : 0 ≤ n) (hx : 0 ≤ x) : dem1 t (n + x) ≤ req1 t n + dem1 t x := by
  have hr := rightT_t h
  have e := Int.mul_ediv_add_emod (n + t.period - 1) t.period
  have h1 := Int.emod_nonneg (n + t.period - 1) (show t.period ≠ 0 by omega)
  have h2 := Int.emod_lt_of_pos (n + t.period - 1) (show 0 < t.period by omega)
  have hk0 : 0 ≤ (n + t.period - 1) / t.period := Int.ediv_nonneg (by omega) (by omega)
  unfold req1
  generalize (n + t.period - 1) / t.period = k at *
  have hnk : n ≤ t.period * k := by omega
  unfold dem1
  by_cases hd : t.dead ≤ x
  · rw [if_pos (by omega), if_pos hd, ← Int.mul_add]
    apply Int.mul_le_mul_of_nonneg_left _ (by omega)
    have h3 : (n + x - t.dead) / t.period ≤ (x - t.dead + t.period * k) / t.period := Int.ediv_le_ediv (by omega) (by omega)
    rw [Int.add_mul_ediv_left _ _ (by omega)] at h3
    omega
  · rw [if_neg hd, Int.add_zero]
    by_cases hd2 : t.dead ≤ n + x
    · rw [if_pos hd2]
      apply Int.mul_le_mul_of_nonneg_left _ (by omega)
      have h3 : (n + x - t.dead) / t.period ≤ (-1 + t.period * k) / t.period := Int.ediv_le_ediv (by omega) (by omega)
      rw [Int.add_mul_ediv_left _ _ (by omega)] at h3
      have h4 : (-1 : Int) / t.period = -1 := by
        have := Int.ediv_eq_neg_one_of_neg_of_le (a := -1) (b := t.period) (by omega) (by omega)
        exact this
      omega
    · rw [if_neg hd2]
      exact Int.mul_nonneg (by omega) hk0
theorem dem_shift {l : List Tk} (hr : ∀ t ∈ l, rightT t = true) {n x : Int} (hn : 0 ≤ n) (hx : 0 ≤ x) : demL l (n + x) ≤ reqL l n + demL l x := by
  unfold demL reqL
  rw [← sumF_add]
  exact sumF_le (fun t ht => dem_shift1 (hr t ht) hn hx)

/-- P32.4 -/
theorem enough_law {l : List Tk} (hr : ∀ t ∈ l, rightT t = true) {most n : Int} (h1 : 0 < fixV 0 l most) (h2 : 0 < badV l n) : badV l n ≤ fixV 0 l most := by
  obtain ⟨f1, _, f3⟩ := fixV_pos h1
  obtain ⟨b1, _, b3⟩ := bad_pos hr h2
  generalize fixV 0 l most = F at *
  generalize badV l n = B at *
  rcases Nat.lt_or_ge F B with h | h
  · have hs := dem_shift hr (n := (F : Int)) (x := ((B - F : Nat) : Int)) (by omega) (by omega)
    rw [show (F : Int) + ((B - F : Nat) : Int) = (B : Int) by omega] at hs
    have h3 := of_decide_eq_false (b3 (B - F) (by omega))
    have h4 := of_decide_eq_true b1
    omega
  · exact h

def rankB (l : List Tk) (i : Nat) : Bool := match l[i]? with
  | some t => decide (0 < fixV t.cost (l.take i) t.dead)
  | none => true
def fixedB (l : List Tk) : Bool := allT l && (List.range l.length).all (rankB l)
theorem rankB_at {l : List Tk} {i : Nat} (hi : i < l.length) : rankB l i = decide (0 < fixV l[i].cost (l.take i) l[i].dead) := by
  unfold rankB
  rw [List.getElem?_eq_getElem hi]
theorem fixed_no {l : List Tk} {i : Nat} (hi : i < l.length) (h : fixV l[i].cost (l.take i) l[i].dead = 0) : fixedB l = false := by
  unfold fixedB
  have : (List.range l.length).all (rankB l) = false := by
    rw [List.all_eq_false]
    exact ⟨i, by simpa using hi, by rw [rankB_at hi, h]; simp⟩
  rw [this, Bool.and_false]
theorem fixed_yes {l : List Tk} (ha : allT l = true) (h : ∀ i (hi : i < l.length), 0 < fixV l[i].cost (l.take i) l[i].dead) : fixedB l = true := by
  unfold fixedB
  rw [ha, Bool.true_and, List.all_eq_true]
  intro i hi
  have hi' : i < l.length := by simpa using hi
  rw [rankB_at hi']
  exact decide_eq_true (h i hi')
theorem fixed_get {l : List Tk} (h : fixedB l = true) : allT l = true ∧ ∀ i (hi : i < l.length), 0 < fixV l[i].cost (l.take i) l[i].dead := by
  unfold fixedB at h
  rw [Bool.and_eq_true, List.all_eq_true] at h
  refine ⟨h.1, fun i hi => ?_⟩
  have := h.2 i (by simpa using hi)
  rw [rankB_at hi] at this
  exact of_decide_eq_true this
theorem fixed_dem {l : List Tk} (h : fixedB l = true) : ∀ (k : Nat), k ≤ l.length → ∀ t : Nat, demL (l.take k) t ≤ t := by
  obtain ⟨ha, hf⟩ := fixed_get h
  have hr := allT_mem ha
  intro k
  induction k with
  | zero => intro _ t; simp [demL, sumF]
  | succ k ih =>
    intro hk t
    have ih := ih (by omega)
    have hrt := hr l[k] (List.getElem_mem (by omega))
    have hr1 := rightT_t hrt
    have hrk : ∀ t ∈ l.take k, rightT t = true := fun t ht => hr t (List.mem_of_mem_take ht)
    obtain ⟨f1, f2, f3⟩ := fixV_pos (hf k (by omega))
    generalize fixV l[k].cost (l.take k) l[k].dead = R at *
    have hstep : ∀ n : Int, demL (l.take (k + 1)) n = demL (l.take k) n + dem1 l[k] n := fun n => sumF_step _ l k (by omega)
    induction t using Nat.strongRecOn with
    | _ t iht =>
      rw [hstep]
      by_cases hd : l[k].dead ≤ (t : Int)
      · have hx := iht (t - R) (by omega)
        rw [hstep] at hx
        have h1 := dem_shift hrk (n := (R : Int)) (x := ((t - R : Nat) : Int)) (by omega) (by omega)
        have h2 := dem_shift1 hrt (n := (R : Int)) (x := ((t - R : Nat) : Int)) (by omega) (by omega)
        rw [show (R : Int) + ((t - R : Nat) : Int) = (t : Int) by omega] at h1 h2
        have h3 : req1 l[k] (R : Int) = l[k].cost := by
          unfold req1
          have : ((R : Int) + l[k].period - 1) / l[k].period = 1 := by
            rw [show (R : Int) + l[k].period - 1 = ((R : Int) - 1) + l[k].period * 1 by omega, Int.add_mul_ediv_left _ _ (by omega), Int.ediv_eq_zero_of_lt (by omega) (by omega)]
            rfl
          rw [this, Int.mul_one]
        omega
      · have : dem1 l[k] (t : Int) = 0 := by unfold dem1; rw [if_neg hd]
        have := ih t
        omega
/-- P32.5 -/
theorem fixed_law {l : List Tk} (h : fixedB l = true) (n : Int) : badV l n = 0 := by
  have hr := allT_mem (fixed_get h).1
  rcases Nat.eq_zero_or_pos (badV l n) with h0 | h0
  · exact h0
  · obtain ⟨b1, _, _⟩ := bad_pos hr h0
    have := fixed_dem h l.length (Nat.le_refl _) (badV l n)
    rw [List.take_length] at this
    have := of_decide_eq_true b1
    omega
end Go.Proofs.Ytkhbnklaglnfdaa.Busy
