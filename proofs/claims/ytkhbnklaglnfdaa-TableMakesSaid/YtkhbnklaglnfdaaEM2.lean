/- Plain: the earliest deadline first keeps all deadlines just if no stretch has too much to do. -/
import Derived.Test.YtkhbnklaglnfdaaEM1
namespace Go.Proofs.Ytkhbnklaglnfdaa.Edf

def MeetsP (l : List Job) (s : List Int) : Prop :=
  (∀ u, s.getD u (-1) < (l.length : Int)) ∧ ∀ (i : Nat) (h : i < l.length), (∀ u : Nat, s.getD u (-1) = (i : Int) → l[i].come ≤ u ∧ (u : Int) < l[i].dead) ∧ (cnt s i s.length : Int) = l[i].cost

def inJ (j : Job) (a b : Int) : Int := if a ≤ j.come ∧ j.dead ≤ b then j.cost else 0
def loadTo (l : List Job) (a b : Int) : Nat → Int
  | 0 => 0
  | k + 1 => loadTo l a b k + match l[k]? with | some j => inJ j a b | none => 0
theorem load_succ (l : List Job) (a b : Int) (k : Nat) (h : k < l.length) : loadTo l a b (k + 1) = loadTo l a b k + inJ l[k] a b := by
  rw [loadTo, List.getElem?_eq_getElem h]

/-- ticks of the first k jobs from a up to b -/
def workTo (s : List Int) (a b : Nat) : Nat → Int
  | 0 => 0
  | k + 1 => workTo s a b k + ((cnt s k b : Int) - cnt s k a)

theorem cnt_mono (s : List Int) (x : Int) (a : Nat) : ∀ d, cnt s x a ≤ cnt s x (a + d)
  | 0 => Nat.le_refl _
  | d + 1 => by have := cnt_mono s x a d; rw [Nat.add_succ, cnt]; omega
theorem cnt_le (s : List Int) (x : Int) {a b : Nat} (h : a ≤ b) : cnt s x a ≤ cnt s x b := by
  have := cnt_mono s x a (b - a)
  rwa [show a + (b - a) = b by omega] at this
theorem cnt_same (s : List Int) (x : Int) (a : Nat) : ∀ d, (∀ u, a ≤ u → u < a + d → s.getD u (-1) ≠ x) → cnt s x (a + d) = cnt s x a
  | 0, _ => rfl
  | d + 1, h => by
    rw [Nat.add_succ, cnt, cnt_same s x a d (fun u h1 h2 => h u h1 (by omega)), if_neg (h _ (by omega) (by omega))]
    rfl
theorem cnt_eq (s : List Int) (x : Int) {a b : Nat} (hab : a ≤ b) (h : ∀ u, a ≤ u → u < b → s.getD u (-1) ≠ x) : cnt s x b = cnt s x a := by
  have := cnt_same s x a (b - a) (fun u h1 h2 => h u h1 (by omega))
  rwa [show a + (b - a) = b by omega] at this

theorem work_self (s : List Int) (a : Nat) : ∀ k, workTo s a a k = 0
  | 0 => rfl
  | k + 1 => by rw [workTo, work_self s a k]; omega
theorem work_step (s : List Int) (a b : Nat) : ∀ k : Nat, workTo s a (b + 1) k = workTo s a b k + if 0 ≤ s.getD b (-1) ∧ s.getD b (-1) < (k : Int) then 1 else 0
  | 0 => by rw [workTo, workTo, if_neg (by omega)]; rfl
  | k + 1 => by
    rw [workTo, workTo, work_step s a b k, cnt]
    generalize s.getD b (-1) = x
    by_cases h : x = (k : Int)
    · rw [if_pos h, if_neg (by omega), if_pos (by omega)]; omega
    · rw [if_neg h]
      by_cases h2 : 0 ≤ x ∧ x < (k : Int)
      · rw [if_pos h2, if_pos (by omega)]; omega
      · rw [if_neg h2, if_neg (by omega)]; omega
theorem work_le (s : List Int) (a k : Nat) : ∀ d : Nat, workTo s a (a + d) k ≤ d
  | 0 => by rw [Nat.add_zero, work_self]; omega
  | d + 1 => by
    have := work_le s a k d
    rw [Nat.add_succ, work_step]
    split <;> omega
theorem work_full (s : List Int) (a k : Nat) : ∀ d : Nat, (∀ u, a ≤ u → u < a + d → 0 ≤ s.getD u (-1) ∧ s.getD u (-1) < (k : Int)) → workTo s a (a + d) k = d
  | 0, _ => by rw [Nat.add_zero, work_self]; omega
  | d + 1, h => by
    have := work_full s a k d (fun u h1 h2 => h u h1 (by omega))
    rw [Nat.add_succ, work_step, if_pos (h _ (by omega) (by omega))]
    omega

def NoOver (l : List Job) : Prop := ∀ a b : Nat, a < b → (b : Int) ≤ endJ l → loadTo l a b l.length ≤ (b : Int) - a

theorem meets_load (l : List Job) (s : List Int) (h : MeetsP l s) : ∀ a b : Nat, a < b → loadTo l a b l.length ≤ (b : Int) - a := by
  intro a b hab
  have hw := work_le s a l.length (b - a)
  rw [show a + (b - a) = b by omega] at hw
  have hk : ∀ k, k ≤ l.length → loadTo l a b k ≤ workTo s a b k := fun k => by
    induction k with
    | zero => intro _; exact Int.le_refl _
    | succ k ih =>
      intro hk
      have hkl : k < l.length := by omega
      have ih := ih (by omega)
      rw [load_succ l a b k hkl, workTo]
      obtain ⟨h1, h2⟩ := h.2 k hkl
      have hm : cnt s k a ≤ cnt s k b := cnt_le s k (by omega)
      unfold inJ
      split
      · rename_i hin
        have ha : cnt s k a = 0 := by
          have := cnt_eq s k (Nat.zero_le a) (fun u _ hu he => by have := (h1 u he).1; omega)
          rw [this]; rfl
        have hb : cnt s k b = cnt s k s.length := by
          by_cases hbs : b ≤ s.length
          · exact (cnt_eq s k hbs (fun u hu _ he => by have := (h1 u he).2; omega)).symm
          · exact cnt_eq s k (by omega) (fun u hu _ he => by rw [List.getD_eq_getElem?_getD, List.getElem?_eq_none hu] at he; simp at he)
        omega
      · omega
  have := hk l.length (Nat.le_refl _)
  omega

theorem meets_noOver (l : List Job) (s : List Int) (h : MeetsP l s) : NoOver l := fun a b hab _ => meets_load l s h a b hab
theorem last_bad (Q : Nat → Prop) (d : Nat) : ∀ m, m ≤ d → ∃ t, t ≤ d ∧ (∀ u, t ≤ u → u < d → Q u) ∧ (t ≤ d - m ∨ (0 < t ∧ ¬ Q (t - 1)))
  | 0, _ => ⟨d, Nat.le_refl _, fun u h1 h2 => by omega, .inl (by omega)⟩
  | m + 1, hm => by
    obtain ⟨t, h1, h2, h3⟩ := last_bad Q d m (by omega)
    rcases h3 with h3 | h3
    · by_cases ht : t ≤ d - (m + 1)
      · exact ⟨t, h1, h2, .inl ht⟩
      · by_cases hq : Q (t - 1)
        · refine ⟨t - 1, by omega, fun u hu1 hu2 => ?_, .inl (by omega)⟩
          by_cases he : u = t - 1
          · subst he; exact hq
          · exact h2 u (by omega) hu2
        · exact ⟨t, h1, h2, .inr ⟨by omega, hq⟩⟩
    · exact ⟨t, h1, h2, .inr h3⟩

theorem end_ge (l : List Job) : ∀ j ∈ l, j.dead ≤ endJ l := by
  have key : ∀ (l : List Job) (e : Int), e ≤ l.foldl (fun e j => max e j.dead) e ∧ ∀ j ∈ l, j.dead ≤ l.foldl (fun e j => max e j.dead) e := fun l => by
    induction l with
    | nil => intro e; exact ⟨Int.le_refl _, fun j hj => by cases hj⟩
    | cons x xs ih =>
      intro e
      have := ih (max e x.dead)
      simp only [List.foldl_cons]
      refine ⟨by omega, fun j hj => ?_⟩
      rcases List.mem_cons.1 hj with rfl | hj
      · omega
      · exact this.2 j hj
  exact (key l 0).2

theorem sched_cnt_le (l : List Job) (s : List Int) (T : Nat) (hs : Sched l s T) (i : Nat) (hi : i < l.length) (hc : 0 ≤ l[i].cost) : ∀ t, t ≤ T → (cnt s i t : Int) ≤ l[i].cost
  | 0, _ => by simpa [cnt] using hc
  | t + 1, ht => by
    have ih := sched_cnt_le l s T hs i hi hc t (by omega)
    rw [cnt]
    by_cases h : s.getD t (-1) = (i : Int)
    · rw [if_pos h]
      rcases hs t (by omega) with ⟨a1, _⟩ | ⟨i', a1, a2, a3, _⟩
      · omega
      · obtain rfl : i' = i := by omega
        obtain ⟨j, h1, h2, h3⟩ := a3
        rw [List.getElem?_eq_getElem hi] at h1
        injection h1 with h1
        subst h1
        omega
    · rw [if_neg h]; omega

theorem noOver_sched (l : List Job) (s : List Int) (T : Nat) (hT : endJ l ≤ (T : Int)) (hl : s.length = T) (hs : Sched l s T) (hok : ∀ j ∈ l, okJ j = true) (hno : NoOver l) : MeetsP l s := by
  have ok : ∀ (i : Nat) (h : i < l.length), 0 ≤ l[i].come ∧ l[i].come < l[i].dead ∧ 1 ≤ l[i].cost ∧ l[i].dead ≤ T ∧ l[i].dead ≤ endJ l := fun i h => by
    have h1 := okJ_t (hok l[i] (List.getElem_mem h))
    have h2 := end_ge l l[i] (List.getElem_mem h)
    omega
  have out : ∀ u, T ≤ u → s.getD u (-1) = -1 := fun u hu => by rw [List.getD_eq_getElem?_getD, List.getElem?_eq_none (by omega)]; rfl
  have pe : ∀ (i : Nat) (h : i < l.length) (t : Nat), pend l s i t ↔ (l[i].come ≤ t ∧ (cnt s i t : Int) < l[i].cost) := fun i h t => by
    unfold pend
    constructor
    · rintro ⟨j, h1, h2, h3⟩
      rw [List.getElem?_eq_getElem h] at h1
      injection h1 with h1
      subst h1
      exact ⟨h2, h3⟩
    · rintro ⟨h1, h2⟩
      exact ⟨l[i], List.getElem?_eq_getElem h, h1, h2⟩
  have ran : ∀ (i : Nat) (h : i < l.length) (u : Nat), s.getD u (-1) = (i : Int) → u < T ∧ l[i].come ≤ u ∧ (cnt s i u : Int) < l[i].cost := fun i h u he => by
    by_cases hu : u < T
    · rcases hs u hu with ⟨a1, _⟩ | ⟨i', a1, a2, a3, _⟩
      · omega
      · obtain rfl : i' = i := by omega
        have := (pe i' h u).1 a3
        exact ⟨hu, this.1, this.2⟩
    · rw [out u (by omega)] at he; omega
  have le := fun (i : Nat) (h : i < l.length) => sched_cnt_le l s T hs i h (by have := ok i h; omega)
  -- each job is done by its deadline
  have done : ∀ (i : Nat) (h : i < l.length), ¬ (cnt s i l[i].dead.toNat : Int) < l[i].cost := fun i h hlt => by
    have oki := ok i h
    obtain ⟨d, hd⟩ : ∃ d : Nat, l[i].dead = d := ⟨l[i].dead.toNat, by omega⟩
    rw [hd, Int.toNat_natCast] at hlt
    have hdT : d ≤ T := by omega
    obtain ⟨t0, h1, h2, h3⟩ := last_bad (fun u => ∃ (q : Nat) (_ : q < l.length), s.getD u (-1) = (q : Int) ∧ l[q].dead ≤ d) d d (Nat.le_refl _)
    -- who came ahead of t0, and is to be done by d, is done
    have hdone : ∀ (q : Nat) (hq : q < l.length), l[q].dead ≤ d → l[q].come < t0 → l[q].cost ≤ (cnt s q t0 : Int) := fun q hq hqd hqc => by
      have okq := ok q hq
      rcases h3 with h3 | ⟨h3, h4⟩
      · omega
      · have hnp : ¬ pend l s q (t0 - 1) := fun hp => by
          rcases hs (t0 - 1) (by omega) with ⟨_, a2⟩ | ⟨r, a1, a2, a3, a4⟩
          · exact a2 q hq hp
          · have hb := a4 q hq hp
            have hrd : ¬ l[r].dead ≤ d := fun hr => h4 ⟨r, a1, a2, hr⟩
            apply hb
            unfold befJ
            rw [dead_get hq, dead_get a1]
            omega
        rw [pe q hq] at hnp
        have := cnt_le s q (show t0 - 1 ≤ t0 by omega)
        omega
    have hci : ¬ l[i].come < t0 := fun hc => by
      have := hdone i h (by omega) hc
      have := cnt_le s i (show t0 ≤ d by omega)
      omega
    have hfull := work_full s t0 l.length (d - t0) (fun u hu1 hu2 => by
      obtain ⟨q, hq, he, _⟩ := h2 u hu1 (by omega)
      rw [he]; omega)
    rw [show t0 + (d - t0) = d by omega] at hfull
    have hsum : ∀ k, k ≤ l.length → workTo s t0 d k + (if i < k then 1 else 0) ≤ loadTo l t0 d k := fun k => by
      induction k with
      | zero => intro _; rw [if_neg (by omega)]; exact Int.le_refl _
      | succ k ih =>
        intro hk
        have hkl : k < l.length := by omega
        have ih := ih (by omega)
        have okk := ok k hkl
        have hlek := le k hkl d hdT
        rw [load_succ l t0 d k hkl, workTo]
        have hpart : (cnt s k d : Int) - cnt s k t0 ≤ inJ l[k] t0 d := by
          unfold inJ
          split
          · omega
          · rename_i hin
            by_cases hkd : l[k].dead ≤ d
            · have := hdone k hkl hkd (by omega)
              omega
            · have := cnt_eq s k h1 (fun u hu1 hu2 he => by
                obtain ⟨q, hq, he', hqd⟩ := h2 u hu1 hu2
                rw [he] at he'
                obtain rfl : k = q := by omega
                exact hkd hqd)
              omega
        by_cases hik : i = k
        · subst hik
          rw [if_neg (by omega)] at ih
          rw [if_pos (by omega)]
          have hin : inJ l[i] t0 d = l[i].cost := by unfold inJ; rw [if_pos (by omega)]
          rw [hin]
          omega
        · by_cases hlt2 : i < k
          · rw [if_pos hlt2] at ih
            rw [if_pos (by omega)]
            omega
          · rw [if_neg hlt2] at ih
            rw [if_neg (by omega)]
            omega
    have hs1 := hsum l.length (Nat.le_refl _)
    rw [if_pos h] at hs1
    have := hno t0 d (by omega) (by omega)
    omega
  refine ⟨fun u => ?_, fun i h => ⟨fun u he => ?_, ?_⟩⟩
  · by_cases hu : u < T
    · rcases hs u hu with ⟨a1, _⟩ | ⟨i', a1, a2, _⟩ <;> omega
    · rw [out u (by omega)]; omega
  · have hr := ran i h u he
    refine ⟨hr.2.1, ?_⟩
    have hd := done i h
    by_cases hlt : (u : Int) < l[i].dead
    · exact hlt
    · have := cnt_le s i (show l[i].dead.toNat ≤ u by omega)
      omega
  · have hd := done i h
    have oki := ok i h
    have h1 := cnt_le s i (show l[i].dead.toNat ≤ T by omega)
    have h2 := le i h T (Nat.le_refl _)
    rw [hl]
    omega

theorem noOver_run (l : List Job) (hok : ∀ j ∈ l, okJ j = true) (h0 : 0 ≤ endJ l) (hno : NoOver l) : MeetsP l (runTo l (endJ l).toNat).2 :=
  noOver_sched l _ (endJ l).toNat (by omega) (run_len l _).2 (run_sched l _) hok hno
end Go.Proofs.Ytkhbnklaglnfdaa.Edf
