/- Plain: the schedule by ticks and the schedule by jobs are one. -/
import Derived.Test.YtkhbnklaglnfdaaEP
namespace Go.Proofs.Ytkhbnklaglnfdaa.Edf

/-- how often x stands in the first t places -/
def cnt (s : List Int) (x : Int) : Nat → Nat
  | 0 => 0
  | t + 1 => cnt s x t + if s.getD t (-1) = x then 1 else 0
theorem cnt_congr (s s' : List Int) (x : Int) : ∀ t, (∀ u, u < t → (s.getD u (-1) = x ↔ s'.getD u (-1) = x)) → cnt s x t = cnt s' x t
  | 0, _ => rfl
  | t + 1, h => by
    have h1 := h t (by omega)
    rw [cnt, cnt, cnt_congr s s' x t (fun u hu => h u (by omega))]
    by_cases h2 : s.getD t (-1) = x
    · rw [if_pos h2, if_pos (h1.1 h2)]
    · rw [if_neg h2, if_neg (fun h3 => h2 (h1.2 h3))]

def befJ (l : List Job) (a b : Int) : Prop := deadAt l a < deadAt l b ∨ (deadAt l a = deadAt l b ∧ a < b)
theorem bef_irrefl (l : List Job) (a : Int) : ¬ befJ l a a := by unfold befJ; omega
theorem bef_asymm (l : List Job) (a b : Int) (h : befJ l a b) : ¬ befJ l b a := by unfold befJ at *; omega
theorem bef_total (l : List Job) (a b : Int) (h : ¬ befJ l a b) (h' : ¬ befJ l b a) : a = b := by unfold befJ at *; omega

/-- job i is there at tick t, and not done -/
def pend (l : List Job) (s : List Int) (i t : Nat) : Prop := ∃ j, l[i]? = some j ∧ j.come ≤ (t : Int) ∧ (cnt s i t : Int) < j.cost

/-- the earliest deadline first -/
def Sched (l : List Job) (s : List Int) (T : Nat) : Prop := ∀ t, t < T →
  (s.getD t (-1) = -1 ∧ ∀ i, i < l.length → ¬ pend l s i t) ∨
  (∃ i : Nat, i < l.length ∧ s.getD t (-1) = (i : Int) ∧ pend l s i t ∧ ∀ i' : Nat, i' < l.length → pend l s i' t → ¬ befJ l i' i)

theorem sched_unique (l : List Job) (s s' : List Int) (T : Nat) (h : Sched l s T) (h' : Sched l s' T) : ∀ t, t ≤ T → ∀ u, u < t → s.getD u (-1) = s'.getD u (-1)
  | 0, _, u, hu => by omega
  | t + 1, ht, u, hu => by
    have ih := sched_unique l s s' T h h' t (by omega)
    by_cases hut : u < t
    · exact ih u hut
    · obtain rfl : u = t := by omega
      have hc : ∀ x, cnt s x u = cnt s' x u := fun x => cnt_congr s s' x u (fun v hv => by rw [ih v hv])
      have hp : ∀ i, pend l s i u ↔ pend l s' i u := fun i => by unfold pend; rw [hc]
      rcases h u (by omega) with ⟨a1, a2⟩ | ⟨i, a1, a2, a3, a4⟩
      · rcases h' u (by omega) with ⟨b1, b2⟩ | ⟨i', b1, b2, b3, b4⟩
        · rw [a1, b1]
        · exact absurd ((hp i').2 b3) (a2 i' b1)
      · rcases h' u (by omega) with ⟨b1, b2⟩ | ⟨i', b1, b2, b3, b4⟩
        · exact absurd ((hp i).1 a3) (b2 i a1)
        · have h1 := a4 i' b1 ((hp i').2 b3)
          have h2 := b4 i a1 ((hp i).1 a3)
          rw [a2, b2]
          exact (bef_total l i' i h1 h2).symm

/-! tick by tick -/
theorem dead_get {l : List Job} {i : Nat} (h : i < l.length) : deadAt l i = l[i].dead := by unfold deadAt; simp [h]
theorem better_iff (l : List Job) (j : Job) (i : Nat) (h : i < l.length) : betterJ l j (i : Int) = decide (j.dead < l[i].dead) := by
  unfold betterJ
  simp [h]
  omega

theorem pick_spec (l : List Job) (had : List Int) (tick : Int) (hh : had.length = l.length) : ∀ k, k ≤ l.length →
    (pickTo l had tick k = -1 ∧ ∀ (i : Nat) (h : i < l.length), i < k → skipJ l[i] (had.getD i 0) tick = true) ∨
    (∃ i : Nat, ∃ h : i < l.length, i < k ∧ pickTo l had tick k = (i : Int) ∧ skipJ l[i] (had.getD i 0) tick = false ∧ ∀ (i' : Nat) (h' : i' < l.length), i' < k → skipJ l[i'] (had.getD i' 0) tick = false → ¬ befJ l i' i)
  | 0, _ => .inl ⟨rfl, fun i h hi => by omega⟩
  | k + 1, hk => by
    have hkl : k < l.length := by omega
    have hkh : k < had.length := by omega
    have ih := pick_spec l had tick hh k (by omega)
    rw [pickTo_succ, pick_at l had tick _ k hkl hkh]
    have hg : had.getD k 0 = had[k] := by rw [List.getD_eq_getElem?_getD, List.getElem?_eq_getElem hkh]; rfl
    cases hs : skipJ l[k] had[k] tick
    · simp only [Bool.false_eq_true, if_false]
      rcases ih with ⟨a1, a2⟩ | ⟨i, hi, a0, a1, a2, a3⟩
      · have hb : betterJ l l[k] (pickTo l had tick k) = true := by rw [a1]; simp [betterJ]
        rw [if_pos hb]
        refine .inr ⟨k, hkl, by omega, rfl, by rw [hg]; exact hs, fun i' h' hi' hsk => ?_⟩
        by_cases he : i' = k
        · subst he; exact bef_irrefl l _
        · have := a2 i' h' (by omega)
          rw [this] at hsk; cases hsk
      · rw [a1, better_iff l l[k] i hi]
        by_cases hd : l[k].dead < l[i].dead
        · rw [if_pos (decide_eq_true hd)]
          refine .inr ⟨k, hkl, by omega, rfl, by rw [hg]; exact hs, fun i' h' hi' hsk => ?_⟩
          by_cases he : i' = k
          · subst he; exact bef_irrefl l _
          · have h1 := a3 i' h' (by omega) hsk
            unfold befJ at *
            rw [dead_get h', dead_get hi] at h1
            rw [dead_get h', dead_get hkl]
            omega
        · rw [if_neg (by simpa using hd)]
          refine .inr ⟨i, hi, by omega, rfl, a2, fun i' h' hi' hsk => ?_⟩
          by_cases he : i' = k
          · subst he
            unfold befJ
            rw [dead_get h', dead_get hi]
            omega
          · exact a3 i' h' (by omega) hsk
    · simp only [if_true]
      rcases ih with ⟨a1, a2⟩ | ⟨i, hi, a0, a1, a2, a3⟩
      · refine .inl ⟨a1, fun i h hi => ?_⟩
        by_cases he : i = k
        · subst he; rw [hg]; exact hs
        · exact a2 i h (by omega)
      · refine .inr ⟨i, hi, by omega, a1, a2, fun i' h' hi' hsk => ?_⟩
        by_cases he : i' = k
        · subst he; rw [hg, hs] at hsk; cases hsk
        · exact a3 i' h' (by omega) hsk

theorem run_get (l : List Job) : ∀ T t, t < T → (runTo l T).2.getD t (-1) = pickTo l (runTo l t).1 t l.length
  | 0, t, h => by omega
  | T + 1, t, h => by
    simp only [runTo]
    by_cases ht : t < T
    · have hl := (run_len l T).2
      have := run_get l T t ht
      rw [List.getD_eq_getElem?_getD] at this ⊢
      rw [List.getElem?_append_left (by omega)]
      exact this
    · obtain rfl : t = T := by omega
      have hl := (run_len l t).2
      rw [List.getD_eq_getElem?_getD, List.getElem?_append_right (by omega), hl]
      simp

theorem had_cnt (l : List Job) (T : Nat) : ∀ t, t ≤ T → ∀ i : Nat, i < l.length → (runTo l t).1.getD i 0 = (cnt (runTo l T).2 i t : Int)
  | 0, _, i, hi => by simp [runTo, cnt, hi]
  | t + 1, ht, i, hi => by
    have ih := had_cnt l T t (by omega) i hi
    have hl := (run_len l t).1
    have hp := pick_bd l (runTo l t).1 t l.length
    rw [cnt, run_get l T t (by omega)]
    simp only [runTo]
    generalize pickTo l (runTo l t).1 t l.length = f at *
    unfold hadStep
    by_cases hf : 0 ≤ f
    · rw [if_pos hf]
      obtain ⟨F, rfl⟩ := Int.eq_ofNat_of_zero_le hf
      have hFl : F < l.length := by have := hp.2.1 (Nat.le_refl _); omega
      simp only [Int.toNat_natCast]
      by_cases he : i = F
      · subst he
        rw [if_pos rfl, List.getD_eq_getElem?_getD, List.getElem?_set_self (by omega)]
        simp only [Option.getD_some]
        rw [ih]; omega
      · have hne : ¬ ((F : Int) = (i : Int)) := by omega
        rw [if_neg hne, List.getD_eq_getElem?_getD, List.getElem?_set_ne (by omega), ← List.getD_eq_getElem?_getD, ih]
        omega
    · have hne : ¬ (f = (i : Int)) := by omega
      rw [if_neg hf, if_neg hne, ih]
      omega

theorem run_sched (l : List Job) (T : Nat) : Sched l (runTo l T).2 T := by
  intro t ht
  have hl := (run_len l t).1
  have hsk : ∀ (i : Nat) (h : i < l.length), skipJ l[i] ((runTo l t).1.getD i 0) t = false ↔ pend l (runTo l T).2 i t := by
    intro i h
    unfold skipJ pend
    rw [had_cnt l T t (by omega) i h]
    constructor
    · intro h1
      simp only [Bool.or_eq_false_iff, decide_eq_false_iff_not] at h1
      exact ⟨l[i], List.getElem?_eq_getElem h, by omega, by omega⟩
    · rintro ⟨j, h1, h2, h3⟩
      rw [List.getElem?_eq_getElem h] at h1
      injection h1 with h1
      subst h1
      simp only [Bool.or_eq_false_iff, decide_eq_false_iff_not]
      omega
  rw [run_get l T t ht]
  rcases pick_spec l (runTo l t).1 t hl l.length (Nat.le_refl _) with ⟨a1, a2⟩ | ⟨i, hi, _, a1, a2, a3⟩
  · refine .inl ⟨a1, fun i h hp => ?_⟩
    have := (hsk i h).2 hp
    rw [a2 i h h] at this
    cases this
  · refine .inr ⟨i, hi, a1, (hsk i hi).1 a2, fun i' h' hp => a3 i' h' h' ((hsk i' h').2 hp)⟩

/-! job by job -/
theorem getD_set_self (s : List Int) (i : Nat) (x d : Int) (h : i < s.length) : (s.set i x).getD i d = x := by
  rw [List.getD_eq_getElem?_getD, List.getElem?_set_self h]; rfl
theorem getD_set_ne (s : List Int) (i j : Nat) (x d : Int) (h : i ≠ j) : (s.set i x).getD j d = s.getD j d := by
  rw [List.getD_eq_getElem?_getD, List.getElem?_set_ne h, ← List.getD_eq_getElem?_getD]
theorem getD_ch (s : List Int) (i : Nat) (d d' : Int) (h : i < s.length) : s.getD i d = s.getD i d' := by
  rw [List.getD_eq_getElem?_getD, List.getD_eq_getElem?_getD, List.getElem?_eq_getElem h]; rfl

theorem fill_char (T : Nat) (id : Int) (hid : 0 ≤ id) : ∀ (f : Nat) (out : List Int) (now : Nat) (left : Int), f = T - now → out.length = T → (∀ u, now ≤ u → u < T → out.getD u (-1) ≠ id) →
    (∀ t, t < now → (fillFrom T id f out now left).getD t (-1) = out.getD t (-1)) ∧
    (∀ t, now ≤ t → t < T → (fillFrom T id f out now left).getD t (-1) = if out.getD t (-1) < 0 ∧ (cnt (fillFrom T id f out now left) id t : Int) - cnt (fillFrom T id f out now left) id now < left then id else out.getD t (-1))
  | 0, out, now, left, hf, hl, hno => ⟨fun t _ => rfl, fun t h1 h2 => by omega⟩
  | f + 1, out, now, left, hf, hl, hno => by
    have hnT : now < T := by omega
    by_cases hleft : 0 < left
    · by_cases hneg : out.getD now 0 < 0
      · have hneg' : out.getD now (-1) < 0 := by rw [getD_ch out now (-1) 0 (by omega)]; exact hneg
        have e : fillFrom T id (f + 1) out now left = fillFrom T id f (out.set now id) (now + 1) (left - 1) := by
          conv => lhs; unfold fillFrom
          rw [if_pos hleft, if_pos hneg]
        have ih := fill_char T id hid f (out.set now id) (now + 1) (left - 1) (by omega) (by simpa using hl) (fun u h1 h2 => by rw [getD_set_ne _ _ _ _ _ (by omega)]; exact hno u (by omega) h2)
        rw [e]
        generalize fillFrom T id f (out.set now id) (now + 1) (left - 1) = r at *
        have hrn : r.getD now (-1) = id := by rw [ih.1 now (by omega), getD_set_self _ _ _ _ (by omega)]
        have hc1 : cnt r id (now + 1) = cnt r id now + 1 := by rw [cnt, if_pos hrn]
        refine ⟨fun t ht => by rw [ih.1 t (by omega), getD_set_ne _ _ _ _ _ (by omega)], fun t h1 h2 => ?_⟩
        by_cases he : t = now
        · subst he
          rw [hrn, if_pos ⟨hneg', by omega⟩]
        · have := ih.2 t (by omega) h2
          rw [getD_set_ne _ _ _ _ _ (by omega)] at this
          rw [this, hc1]
          by_cases hc : out.getD t (-1) < 0 ∧ (cnt r id t : Int) - ((cnt r id now + 1 : Nat) : Int) < left - 1
          · rw [if_pos hc, if_pos ⟨hc.1, by omega⟩]
          · rw [if_neg hc, if_neg (fun h => hc ⟨h.1, by omega⟩)]
      · have e : fillFrom T id (f + 1) out now left = fillFrom T id f out (now + 1) left := by
          conv => lhs; unfold fillFrom
          rw [if_pos hleft, if_neg hneg]
        have hneg' : ¬ out.getD now (-1) < 0 := by rw [getD_ch out now (-1) 0 (by omega)]; exact hneg
        have ih := fill_char T id hid f out (now + 1) left (by omega) hl (fun u h1 h2 => hno u (by omega) h2)
        rw [e]
        generalize fillFrom T id f out (now + 1) left = r at *
        have hrn : r.getD now (-1) = out.getD now (-1) := ih.1 now (by omega)
        have hc1 : cnt r id (now + 1) = cnt r id now := by rw [cnt, if_neg (by rw [hrn]; exact hno now (Nat.le_refl _) hnT)]; rfl
        refine ⟨fun t ht => ih.1 t (by omega), fun t h1 h2 => ?_⟩
        by_cases he : t = now
        · subst he
          rw [hrn, if_neg (fun h => hneg' h.1)]
        · have := ih.2 t (by omega) h2
          rw [this, hc1]
    · have e : fillFrom T id (f + 1) out now left = out := by
        unfold fillFrom
        rw [if_neg hleft]
      rw [e]
      refine ⟨fun t _ => rfl, fun t h1 h2 => ?_⟩
      have hmono : cnt out id now ≤ cnt out id t := by
        have : ∀ d, cnt out id now ≤ cnt out id (now + d) := fun d => by
          induction d with
          | zero => exact Nat.le_refl _
          | succ d ih => rw [Nat.add_succ, cnt]; omega
        have h3 := this (t - now)
        rwa [show now + (t - now) = t by omega] at h3
      rw [if_neg (fun h => by omega)]

/-! the order of the jobs -/
theorem pos_spec (l : List Job) (out : List Int) (d : Int) : ∀ k, k ≤ out.length → (∀ q, posDown l out d k ≤ q → q < k → d < deadAt l (out.getD q 0)) ∧ (0 < posDown l out d k → deadAt l (out.getD (posDown l out d k - 1) 0) ≤ d)
  | 0, _ => ⟨fun q h1 h2 => by omega, fun h => by simp [posDown] at h⟩
  | k + 1, hk => by
    have ih := pos_spec l out d k (by omega)
    unfold posDown
    by_cases h : d < deadAt l (out.getD k 0)
    · rw [if_pos h]
      refine ⟨fun q h1 h2 => ?_, ih.2⟩
      by_cases he : q = k
      · subst he; exact h
      · exact ih.1 q h1 (by omega)
    · rw [if_neg h]
      refine ⟨fun q h1 h2 => by omega, fun _ => ?_⟩
      simp only [Nat.add_sub_cancel]
      omega

theorem by_sorted (l : List Job) : ∀ i, (byDeadTo l i).Pairwise (befJ l)
  | 0 => List.Pairwise.nil
  | i + 1 => by
    have ih := by_sorted l i
    have hbd := by_bd l i
    simp only [byDeadTo]
    generalize byDeadTo l i = o at *
    have hps := pos_spec l o (deadAt l i) o.length (Nat.le_refl _)
    have hle := pos_le l o (deadAt l i) o.length
    generalize posDown l o (deadAt l i) o.length = p at *
    unfold insAt
    have hsplit : o.take p ++ o.drop p = o := List.take_append_drop p o
    rw [← hsplit, List.pairwise_append] at ih
    obtain ⟨p1, p2, p3⟩ := ih
    have hlow : ∀ x ∈ o.take p, befJ l x i := by
      intro x hx
      obtain ⟨q, hq, rfl⟩ := List.mem_iff_getElem.1 hx
      have hqp : q < p := by simp at hq; omega
      have hql : q < o.length := by simp at hq; omega
      have hxo : (o.take p)[q] = o[q] := List.getElem_take
      have hb := hbd o[q] (List.getElem_mem hql)
      have hlast : deadAt l o[p - 1] ≤ deadAt l i := by
        have := hps.2 (by omega)
        rwa [List.getD_eq_getElem?_getD, List.getElem?_eq_getElem (by omega)] at this
      have hd : deadAt l o[q] ≤ deadAt l i := by
        by_cases he : q = p - 1
        · subst he; exact hlast
        · have hpw := List.pairwise_iff_getElem.1 p1 q (p - 1) hq (by simp; omega) (by omega)
          rw [List.getElem_take, List.getElem_take] at hpw
          unfold befJ at hpw
          omega
      rw [hxo]
      unfold befJ
      omega
    have hhigh : ∀ x ∈ o.drop p, befJ l i x := by
      intro x hx
      obtain ⟨q, hq, rfl⟩ := List.mem_iff_getElem.1 hx
      have hql : p + q < o.length := by simp at hq; omega
      rw [List.getElem_drop]
      have := hps.1 (p + q) (by omega) hql
      rw [List.getD_eq_getElem?_getD, List.getElem?_eq_getElem hql] at this
      unfold befJ
      left
      exact this
    rw [List.pairwise_append, List.pairwise_append]
    refine ⟨⟨p1, List.pairwise_singleton _ _, fun a ha b hb => ?_⟩, p2, fun a ha b hb => ?_⟩
    · simp at hb; subst hb; exact hlow a ha
    · rcases List.mem_append.1 ha with h | h
      · exact p3 a h b hb
      · simp at h; subst h; exact hhigh b hb

theorem by_mem (l : List Job) : ∀ i (x : Nat), x < i → (x : Int) ∈ byDeadTo l i
  | 0, x, h => by omega
  | i + 1, x, h => by
    simp only [byDeadTo, insAt, List.mem_append, List.mem_singleton]
    by_cases he : x = i
    · subst he; exact .inl (.inr rfl)
    · have := by_mem l i x (by omega)
      rw [← List.take_append_drop (posDown l (byDeadTo l i) (deadAt l i) (byDeadTo l i).length) (byDeadTo l i), List.mem_append] at this
      rcases this with h1 | h1
      · exact .inl (.inl h1)
      · exact .inr h1

/-- what the first m jobs of the order have -/
def Fill (l : List Job) (T : Nat) (ord : List Int) (m : Nat) (s : List Int) : Prop := s.length = T ∧ ∀ t, t < T →
  (s.getD t (-1) = -1 ∧ ∀ (q : Nat) (i : Nat), q < m → ord[q]? = some (i : Int) → ¬ pend l s i t) ∨
  (∃ (q : Nat) (i : Nat), q < m ∧ ord[q]? = some (i : Int) ∧ s.getD t (-1) = (i : Int) ∧ pend l s i t ∧ ∀ (q' : Nat) (i' : Nat), q' < q → ord[q']? = some (i' : Int) → ¬ pend l s i' t)

theorem fill_step (l : List Job) (T : Nat) (ord : List Int) (hpw : ord.Pairwise (befJ l)) (hbd : ∀ x ∈ ord, 0 ≤ x ∧ x < l.length) (hok : ∀ j ∈ l, 0 ≤ j.come) (m : Nat) (hm : m < ord.length) (s : List Int) (h : Fill l T ord m s) :
    Fill l T ord (m + 1) (fillJob l T s (ord.getD m 0)) := by
  obtain ⟨hlen, hF⟩ := h
  have hom : ord.getD m 0 = ord[m] := by rw [List.getD_eq_getElem?_getD, List.getElem?_eq_getElem hm]; rfl
  have hx := hbd ord[m] (List.getElem_mem hm)
  obtain ⟨X, hX⟩ := Int.eq_ofNat_of_zero_le hx.1
  have hXl : X < l.length := by omega
  have hj := hok l[X] (List.getElem_mem hXl)
  obtain ⟨C, hC⟩ := Int.eq_ofNat_of_zero_le hj
  -- a job of the order that stands earlier is another one
  have hother : ∀ (q : Nat) (i : Nat), q < m → ord[q]? = some (i : Int) → i ≠ X := by
    rintro q i hq hqi rfl
    have hql : q < ord.length := by omega
    have := List.pairwise_iff_getElem.1 hpw q m hql hm hq
    rw [List.getElem?_eq_getElem hql] at hqi
    injection hqi with hqi
    rw [hqi, hX] at this
    exact bef_irrefl l _ this
  have hnoX : ∀ u, u < T → s.getD u (-1) ≠ (X : Int) := by
    intro u hu he
    rcases hF u hu with ⟨a1, _⟩ | ⟨q, i, a0, a1, a2, _⟩
    · rw [a1] at he; omega
    · rw [a2] at he
      have : i = X := by omega
      exact hother q i a0 a1 this
  have hfj : fillJob l T s (ord.getD m 0) = fillFrom T X (T - C) s C l[X].cost := by
    unfold fillJob
    rw [hom, hX]
    simp [hXl, hC]
  rw [hfj]
  have hch := fill_char T X (by omega) (T - C) s C l[X].cost rfl hlen (fun u _ hu => hnoX u hu)
  have hrl : (fillFrom T X (T - C) s C l[X].cost).length = T := by rw [fillFrom_len]; exact hlen
  generalize fillFrom T X (T - C) s C l[X].cost = r at *
  -- what r holds
  have hr : ∀ t, t < T → (r.getD t (-1) = s.getD t (-1)) ∨ (s.getD t (-1) < 0 ∧ C ≤ t ∧ r.getD t (-1) = X ∧ (cnt r X t : Int) - cnt r X C < l[X].cost) := by
    intro t ht
    by_cases hCt : C ≤ t
    · have := hch.2 t hCt ht
      by_cases hc : s.getD t (-1) < 0 ∧ (cnt r X t : Int) - cnt r X C < l[X].cost
      · rw [if_pos hc] at this
        exact .inr ⟨hc.1, hCt, this, hc.2⟩
      · rw [if_neg hc] at this
        exact .inl this
    · exact .inl (hch.1 t (by omega))
  have hc0 : cnt r X C = 0 ∨ T < C := by
    by_cases hTC : T < C
    · exact .inr hTC
    · left
      have : ∀ d, d ≤ C → cnt r X d = 0 := fun d => by
        induction d with
        | zero => intro _; rfl
        | succ d ih =>
          intro hd
          rw [cnt, ih (by omega), if_neg]
          rw [hch.1 d (by omega)]
          exact hnoX d (by omega)
      exact this C (Nat.le_refl _)
  -- other jobs' ticks are as they were
  have hcount : ∀ (i : Nat), i ≠ X → ∀ t, t ≤ T → cnt r i t = cnt s i t := fun i hi t ht => cnt_congr r s i t (fun u hu => by
    rcases hr u (by omega) with h1 | ⟨h1, _, h3, _⟩
    · rw [h1]
    · rw [h3]
      constructor
      · intro h4; exfalso; omega
      · intro h4; exfalso; omega)
  have hpend : ∀ (i : Nat), i ≠ X → ∀ t, t ≤ T → (pend l r i t ↔ pend l s i t) := fun i hi t ht => by unfold pend; rw [hcount i hi t ht]
  refine ⟨hrl, fun t ht => ?_⟩
  have hpX : pend l r X t ↔ (C ≤ t ∧ (cnt r X t : Int) < l[X].cost) := by
    unfold pend
    constructor
    · rintro ⟨j, h1, h2, h3⟩
      rw [List.getElem?_eq_getElem hXl] at h1
      injection h1 with h1
      subst h1
      exact ⟨by omega, h3⟩
    · rintro ⟨h1, h2⟩
      exact ⟨l[X], List.getElem?_eq_getElem hXl, by omega, h2⟩
  rcases hF t ht with ⟨a1, a2⟩ | ⟨q, i, a0, a1, a2, a3, a4⟩
  · rcases hr t ht with h1 | ⟨h1, h2, h3, h4⟩
    · refine .inl ⟨by rw [h1]; exact a1, fun q i hq hqi => ?_⟩
      by_cases hqm : q = m
      · subst hqm
        rw [List.getElem?_eq_getElem hm, hX] at hqi
        injection hqi with hqi
        have hiX : i = X := by omega
        subst hiX
        rw [hpX]
        rintro ⟨h5, h6⟩
        have := hch.2 t h5 ht
        rw [if_pos ⟨by omega, by rcases hc0 with h7 | h7 <;> omega⟩, h1, a1] at this
        omega
      · have hi := hother q i (by omega) hqi
        rw [hpend i hi t (by omega)]
        exact a2 q i (by omega) hqi
    · refine .inr ⟨m, X, by omega, by rw [List.getElem?_eq_getElem hm, hX], h3, hpX.2 ⟨h2, by rcases hc0 with h7 | h7 <;> omega⟩, fun q' i' hq' hqi => ?_⟩
      have hi := hother q' i' hq' hqi
      rw [hpend i' hi t (by omega)]
      exact a2 q' i' hq' hqi
  · rcases hr t ht with h1 | ⟨h1, _, _, _⟩
    · have hi := hother q i a0 a1
      refine .inr ⟨q, i, by omega, a1, by rw [h1]; exact a2, (hpend i hi t (by omega)).2 a3, fun q' i' hq' hqi => ?_⟩
      have hi' := hother q' i' (by omega) hqi
      rw [hpend i' hi' t (by omega)]
      exact a4 q' i' hq' hqi
    · rw [a2] at h1; omega

theorem fill_all (l : List Job) (T : Nat) (ord : List Int) (hpw : ord.Pairwise (befJ l)) (hbd : ∀ x ∈ ord, 0 ≤ x ∧ x < l.length) (hok : ∀ j ∈ l, 0 ≤ j.come) : ∀ m, m ≤ ord.length → Fill l T ord m (fillAll l T ord m)
  | 0, _ => ⟨by simp [fillAll], fun t ht => .inl ⟨by simp only [fillAll]; rw [List.getD_eq_getElem?_getD, List.getElem?_replicate]; split <;> rfl, fun q i hq _ => by omega⟩⟩
  | m + 1, hm => by
    have ih := fill_all l T ord hpw hbd hok m (by omega)
    exact fill_step l T ord hpw hbd hok m (by omega) _ ih

theorem fill_sched (l : List Job) (T : Nat) (hok : ∀ j ∈ l, 0 ≤ j.come) : Sched l (fillAll l T (byDeadTo l l.length) l.length) T := by
  have hpw := by_sorted l l.length
  have hbd := by_bd l l.length
  have hlen := by_len l l.length
  have hmem := by_mem l l.length
  have hF := fill_all l T (byDeadTo l l.length) hpw hbd hok l.length (by omega)
  generalize byDeadTo l l.length = ord at *
  generalize fillAll l T ord l.length = s at *
  intro t ht
  have hidx : ∀ i : Nat, i < l.length → ∃ q, q < l.length ∧ ord[q]? = some (i : Int) := fun i hi => by
    obtain ⟨q, hq, he⟩ := List.mem_iff_getElem.1 (hmem i hi)
    exact ⟨q, by omega, by rw [List.getElem?_eq_getElem hq, he]⟩
  rcases hF.2 t ht with ⟨a1, a2⟩ | ⟨q, i, a0, a1, a2, a3, a4⟩
  · refine .inl ⟨a1, fun i hi => ?_⟩
    obtain ⟨q, hq, he⟩ := hidx i hi
    exact a2 q i hq he
  · have hq : q < ord.length := by omega
    have hio : ord[q] = (i : Int) := by
      rw [List.getElem?_eq_getElem hq] at a1
      injection a1
    have hib := hbd ord[q] (List.getElem_mem hq)
    refine .inr ⟨i, by omega, a2, a3, fun i' hi' hp => ?_⟩
    obtain ⟨q', hq', he'⟩ := hidx i' hi'
    by_cases hlt : q' < q
    · exact absurd hp (a4 q' i' hlt he')
    · have hql : q' < ord.length := by omega
      have hio' : ord[q'] = (i' : Int) := by
        rw [List.getElem?_eq_getElem hql] at he'
        injection he'
      by_cases he : q' = q
      · subst he
        have : i' = i := by omega
        subst this
        exact bef_irrefl l _
      · have := List.pairwise_iff_getElem.1 hpw q q' hq hql (by omega)
        rw [hio, hio'] at this
        exact bef_asymm l _ _ this

theorem fill_eq_run (l : List Job) (T : Nat) (hok : ∀ j ∈ l, 0 ≤ j.come) : fillAll l T (byDeadTo l l.length) l.length = (runTo l T).2 := by
  have h1 := fill_sched l T hok
  have h2 := run_sched l T
  have hu := sched_unique l _ _ T h1 h2 T (Nat.le_refl _)
  have l1 := fillAll_len l T (byDeadTo l l.length) l.length
  have l2 := (run_len l T).2
  generalize fillAll l T (byDeadTo l l.length) l.length = a at *
  generalize (runTo l T).2 = b at *
  apply List.ext_getElem
  · omega
  · intro i h3 h4
    have := hu i (by omega)
    rwa [List.getD_eq_getElem?_getD, List.getD_eq_getElem?_getD, List.getElem?_eq_getElem h3, List.getElem?_eq_getElem h4] at this
end Go.Proofs.Ytkhbnklaglnfdaa.Edf
