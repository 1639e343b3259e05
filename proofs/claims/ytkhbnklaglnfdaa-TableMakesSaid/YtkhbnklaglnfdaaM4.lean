/- Plain: the jobs of a round; the table is their schedule. -/
import Derived.Test.YtkhbnklaglnfdaaM3
namespace Go.Proofs.Ytkhbnklaglnfdaa

structure Rnd (l : List Tk) (n : Nat) : Prop where
  rt : ∀ t ∈ l, rightT t = true
  dv : ∀ i, i < l.length → n % pN l i = 0
def jobM (l : List Tk) (i q : Nat) : Edf.Job := ⟨((q * pN l i : Nat) : Int), ((q * pN l i : Nat) : Int) + (tk l i).dead, (tk l i).cost⟩
def offM (l : List Tk) (n : Nat) : Nat → Nat
  | 0 => 0
  | k + 1 => offM l n k + n / pN l k
def jobsM (l : List Tk) (n : Nat) : Nat → List Edf.Job
  | 0 => []
  | k + 1 => jobsM l n k ++ (List.range (n / pN l k)).map (jobM l k)
def whoM (l : List Tk) (n : Nat) : Nat → List Int
  | 0 => []
  | k + 1 => whoM l n k ++ List.replicate (n / pN l k) (k : Int)
theorem jobs_len (l : List Tk) (n : Nat) : ∀ k, (jobsM l n k).length = offM l n k
  | 0 => rfl
  | k + 1 => by simp [jobsM, offM, jobs_len l n k]
theorem who_len (l : List Tk) (n : Nat) : ∀ k, (whoM l n k).length = offM l n k
  | 0 => rfl
  | k + 1 => by simp [whoM, offM, who_len l n k]
theorem off_le (l : List Tk) (n : Nat) : ∀ {k i : Nat}, i < k → offM l n i + n / pN l i ≤ offM l n k
  | 0, i, h => absurd h (Nat.not_lt_zero _)
  | k + 1, i, h => by
    rw [show offM l n (k + 1) = offM l n k + n / pN l k from rfl]
    by_cases he : i = k
    · subst he; exact Nat.le_refl _
    · exact Nat.le_trans (off_le l n (show i < k by omega)) (Nat.le_add_right _ _)
theorem jobs_at (l : List Tk) (n : Nat) : ∀ {k i q : Nat}, i < k → q < n / pN l i → (jobsM l n k)[offM l n i + q]? = some (jobM l i q)
  | 0, i, q, h, _ => absurd h (Nat.not_lt_zero _)
  | k + 1, i, q, h, hq => by
    rw [jobsM]
    by_cases he : i = k
    · subst he
      rw [List.getElem?_append_right (by rw [jobs_len]; omega), jobs_len, show offM l n i + q - offM l n i = q by omega]
      simp [hq]
    · have h1 := off_le l n (show i < k by omega)
      rw [List.getElem?_append_left (by rw [jobs_len]; omega)]
      exact jobs_at l n (by omega) hq
theorem who_at (l : List Tk) (n : Nat) : ∀ {k i q : Nat}, i < k → q < n / pN l i → (whoM l n k)[offM l n i + q]? = some (i : Int)
  | 0, i, q, h, _ => absurd h (Nat.not_lt_zero _)
  | k + 1, i, q, h, hq => by
    rw [whoM]
    by_cases he : i = k
    · subst he
      rw [List.getElem?_append_right (by rw [who_len]; omega), who_len, show offM l n i + q - offM l n i = q by omega]
      simp [hq]
    · have h1 := off_le l n (show i < k by omega)
      rw [List.getElem?_append_left (by rw [who_len]; omega)]
      exact who_at l n (by omega) hq
theorem jobs_ix (l : List Tk) (n : Nat) : ∀ {k m : Nat}, m < offM l n k → ∃ i q, i < k ∧ q < n / pN l i ∧ m = offM l n i + q
  | 0, m, h => absurd h (Nat.not_lt_zero _)
  | k + 1, m, h => by
    by_cases h1 : m < offM l n k
    · obtain ⟨i, q, h2, h3, h4⟩ := jobs_ix l n h1
      exact ⟨i, q, by omega, h3, h4⟩
    · rw [show offM l n (k + 1) = offM l n k + n / pN l k from rfl] at h
      exact ⟨k, m - offM l n k, by omega, by omega, by omega⟩
theorem ix_inj (l : List Tk) (n : Nat) {i q i' q' : Nat} (h : q < n / pN l i) (h' : q' < n / pN l i') (e : offM l n i + q = offM l n i' + q') : i = i' ∧ q = q' := by
  rcases Nat.lt_trichotomy i i' with h1 | h1 | h1
  · have := off_le l n h1; omega
  · subst h1; exact ⟨rfl, by omega⟩
  · have := off_le l n h1; omega
def ixM (l : List Tk) (n : Nat) (x : Int) (u : Nat) : Int := if x < 0 then -1 else ((offM l n x.toNat + u / pN l x.toNat : Nat) : Int)
/-- a table as a schedule of jobs -/
def schT (l : List Tk) (n : Nat) (T : List Int) : List Int := (List.range T.length).map fun u => ixM l n (tAt T u) u
theorem schT_at {l : List Tk} {n : Nat} {T : List Int} {u : Nat} (h : u < T.length) : (schT l n T).getD u (-1) = ixM l n (tAt T u) u := by
  unfold schT
  rw [List.getD_eq_getElem?_getD]
  simp [h]
theorem div_in {u n P : Nat} (hP : 1 ≤ P) (hn : n % P = 0) (h : u < n) : u / P < n / P := by
  refine Nat.div_lt_of_lt_mul ?_
  have := Nat.div_add_mod n P
  omega
section
variable {l : List Tk} {n t : Nat} {L D T : List Int}
theorem lo_of (h : TInv l t L D T) {u : Nat} (hu : u < t) : tAt T u = -1 ∨ ∃ i : Nat, i < l.length ∧ tAt T u = i := by
  rcases h.ch u hu with ⟨h1, _⟩ | ⟨i, h1, h2, _⟩
  · exact .inl h1
  · exact .inr ⟨i, h1, h2⟩
theorem cnt_schT (R : Rnd l n) (h : TInv l t L D T) (ht : t ≤ n) {i q : Nat} (hi : i < l.length) (hq : q < n / pN l i) : ∀ u, u ≤ t → (Edf.cnt (schT l n T) ((offM l n i + q : Nat) : Int) u : Int) = cR T i (q * pN l i) (min (u - q * pN l i) (pN l i))
  | 0, _ => by simp [Edf.cnt, cR]
  | u + 1, hu => by
    have ih := cnt_schT R h ht hi hq u (by omega)
    have hP := (rgt R.rt hi).2.2.2
    have hx : ((schT l n T).getD u (-1) = ((offM l n i + q : Nat) : Int)) ↔ (tAt T u = i ∧ u / pN l i = q) := by
      rw [schT_at (by rw [h.lT]; omega)]
      rcases lo_of h (show u < t by omega) with h1 | ⟨j, h1, h2⟩
      · rw [h1]
        unfold ixM
        rw [if_pos (by omega)]
        omega
      · rw [h2]
        unfold ixM
        rw [if_neg (by omega), Int.toNat_natCast]
        have hj := div_in (rgt R.rt h1).2.2.2 (R.dv j h1) (show u < n by omega)
        constructor
        · intro e
          obtain ⟨e1, e2⟩ := ix_inj l n hj hq (by omega)
          subst e1
          exact ⟨rfl, e2⟩
        · rintro ⟨e1, e2⟩
          obtain rfl : j = i := by omega
          rw [e2]
    rw [Edf.cnt]
    by_cases h1 : u < q * pN l i
    · rw [if_neg (fun e => by
        have := (hx.1 e).2
        have h3 := div_mul_le u (pN l i)
        rw [this] at h3
        omega)]
      rw [show u + 1 - q * pN l i = 0 by omega]
      rw [show u - q * pN l i = 0 by omega] at ih
      simpa using ih
    · by_cases h2 : u < q * pN l i + pN l i
      · have hd : u / pN l i = q := by
          have h3 := mod_sub u (pN l i)
          have h4 := Nat.mod_lt u (show 0 < pN l i by omega)
          have h5 := div_mul_le u (pN l i)
          rcases Nat.lt_trichotomy (u / pN l i) q with h6 | h6 | h6
          · have := Nat.mul_le_mul_right (pN l i) (show u / pN l i + 1 ≤ q by omega)
            rw [Nat.add_mul] at this
            omega
          · exact h6
          · have := Nat.mul_le_mul_right (pN l i) (show q + 1 ≤ u / pN l i by omega)
            rw [Nat.add_mul] at this
            omega
        rw [show min (u - q * pN l i) (pN l i) = u - q * pN l i by omega] at ih
        rw [show min (u + 1 - q * pN l i) (pN l i) = (u - q * pN l i) + 1 by omega, cR, ← ih, show q * pN l i + (u - q * pN l i) = u by omega]
        by_cases e : tAt T u = i
        · rw [if_pos (hx.2 ⟨e, hd⟩), if_pos e]; omega
        · rw [if_neg (fun h => e (hx.1 h).1), if_neg e]; omega
      · rw [if_neg (fun e => by
          have := (hx.1 e).2
          have h3 := mod_sub u (pN l i)
          have h4 := Nat.mod_lt u (show 0 < pN l i by omega)
          have h5 := div_mul_le u (pN l i)
          rw [this] at h3 h5
          omega)]
        rw [show min (u + 1 - q * pN l i) (pN l i) = pN l i by omega]
        rw [show min (u - q * pN l i) (pN l i) = pN l i by omega] at ih
        simpa using ih
/-- a job is there and not done just if it is its task's, and something is left -/
theorem pend_schT (R : Rnd l n) (h : TInv l t L D T) (ht : t ≤ n) {i q u : Nat} (hi : i < l.length) (hq : q < n / pN l i) (hu : u < t) : Edf.pend (jobsM l n l.length) (schT l n T) (offM l n i + q) u ↔ (u / pN l i = q ∧ 0 < remM l T i u) := by
  have hP := (rgt R.rt hi).2.2.2
  have hc := cnt_schT R h ht hi hq u (by omega)
  have h3 := mod_sub u (pN l i)
  have h4 := Nat.mod_lt u (show 0 < pN l i by omega)
  have h5 := div_mul_le u (pN l i)
  constructor
  · rintro ⟨j, hj, h1, h2⟩
    rw [jobs_at l n hi hq] at hj
    injection hj with hj
    subst hj
    simp only [jobM] at h1 h2
    rw [hc] at h2
    have hqu : u / pN l i = q := by
      rcases Nat.lt_trichotomy (u / pN l i) q with h6 | h6 | h6
      · have := Nat.mul_le_mul_right (pN l i) (show u / pN l i + 1 ≤ q by omega)
        rw [Nat.add_mul] at this
        omega
      · exact h6
      · exfalso
        have := Nat.mul_le_mul_right (pN l i) (show q + 1 ≤ u / pN l i by omega)
        rw [Nat.add_mul] at this
        rw [show min (u - q * pN l i) (pN l i) = pN l i by omega] at h2
        have := h.done i hi q (by omega)
        omega
    refine ⟨hqu, ?_⟩
    unfold remM
    rw [hqu] at h3 h5 ⊢
    rw [show min (u - q * pN l i) (pN l i) = u % pN l i by omega] at h2
    omega
  · rintro ⟨hqu, hr⟩
    refine ⟨jobM l i q, jobs_at l n hi hq, ?_, ?_⟩
    · simp only [jobM]
      rw [hqu] at h5
      omega
    · rw [hc]
      simp only [jobM]
      unfold remM at hr
      rw [hqu] at h3 h5 hr
      rw [show min (u - q * pN l i) (pN l i) = u % pN l i by omega]
      omega
theorem dead_ix {i q : Nat} (hi : i < l.length) (hq : q < n / pN l i) : Edf.deadAt (jobsM l n l.length) ((offM l n i + q : Nat) : Int) = ((q * pN l i : Nat) : Int) + (tk l i).dead := by
  have h1 := jobs_at l n hi hq
  have h2 := (List.getElem?_eq_some_iff.1 h1).1
  rw [Edf.dead_get h2]
  rw [List.getElem?_eq_getElem h2] at h1
  injection h1 with h1
  rw [h1]
  rfl
theorem sched_schT (R : Rnd l n) (h : TInv l t L D T) (ht : t ≤ n) : Edf.Sched (jobsM l n l.length) (schT l n T) t := by
  intro u hu
  rw [schT_at (by rw [h.lT]; exact hu)]
  rcases h.ch u hu with ⟨h1, h2⟩ | ⟨i, hi, h1, h2, h3⟩
  · left
    refine ⟨by rw [h1]; rfl, fun m hm hp => ?_⟩
    rw [jobs_len] at hm
    obtain ⟨i, q, hi, hq, rfl⟩ := jobs_ix l n hm
    have h4 := ((pend_schT R h ht hi hq hu).1 hp).2
    have h5 : remM l T i u ≤ 0 := h2 i hi
    omega
  · right
    have hd := div_in (rgt R.rt hi).2.2.2 (R.dv i hi) (show u < n by omega)
    refine ⟨offM l n i + u / pN l i, ?_, ?_, (pend_schT R h ht hi hd hu).2 ⟨rfl, h2⟩, fun m hm hp hb => ?_⟩
    · rw [jobs_len]
      have := off_le l n hi
      omega
    · rw [h1]
      unfold ixM
      rw [if_neg (by omega), Int.toNat_natCast]
    · rw [jobs_len] at hm
      obtain ⟨i', q', hi', hq', rfl⟩ := jobs_ix l n hm
      obtain ⟨e1, e2⟩ := (pend_schT R h ht hi' hq' hu).1 hp
      subst e1
      refine h3 i' hi' e2 ?_
      unfold Edf.befJ at hb
      rw [dead_ix hi' hq', dead_ix hi hd] at hb
      unfold befM dlM
      rcases hb with hb | ⟨hb, hb2⟩
      · exact .inl hb
      · right
        refine ⟨hb, ?_⟩
        rcases Nat.lt_trichotomy i' i with h6 | h6 | h6
        · exact h6
        · subst h6; omega
        · have h7 := off_le l n h6
          have h8 := Int.natCast_nonneg (u / pN l i')
          have h9 : (offM l n i' : Int) + ((u / pN l i' : Nat) : Int) < (offM l n i : Int) + ((u / pN l i : Nat) : Int) := by simpa using hb2
          have h10 : ((u / pN l i : Nat) : Int) < ((n / pN l i : Nat) : Int) := by exact_mod_cast hd
          have h11 : (offM l n i : Int) + ((n / pN l i : Nat) : Int) ≤ (offM l n i' : Int) := by exact_mod_cast h7
          omega
end

/-! the document's table -/
def docTo (js : List Edf.Job) (wh s : List Int) : Nat → Option (List Int)
  | 0 => some []
  | k + 1 => match docTo js wh s k with
    | none => none
    | some out => if s.getD k (-1) < 0 then some (out ++ [-1]) else if Edf.deadAt js (s.getD k (-1)) ≤ k then none else some (out ++ [wh.getD (s.getD k (-1)).toNat 0])
def doneB (js : List Edf.Job) (s : List Int) (n : Nat) : Bool := (List.range js.length).all fun (k : Nat) => decide ((js.getD k ⟨0, 0, 0⟩).cost ≤ (Edf.cnt s (k : Int) n : Int))
def docM (js : List Edf.Job) (wh s : List Int) (n : Nat) : Option (List Int) := match docTo js wh s n with
  | none => none
  | some out => if doneB js s n = true then some out else none
theorem docTo_none {js : List Edf.Job} {wh s : List Int} {k m : Nat} (h : docTo js wh s k = none) (hm : k ≤ m) : docTo js wh s m = none := by
  obtain ⟨j, rfl⟩ := Nat.exists_eq_add_of_le hm
  clear hm
  induction j with
  | zero => exact h
  | succ j ih => rw [show k + (j + 1) = (k + j) + 1 by omega, docTo, ih]
/-- a job that is run late -/
theorem docTo_late {js : List Edf.Job} {wh s : List Int} {k n : Nat} (hk : k < n) (h0 : 0 ≤ s.getD k (-1)) (hd : Edf.deadAt js (s.getD k (-1)) ≤ k) : docTo js wh s n = none := by
  refine docTo_none (k := k + 1) ?_ hk
  rw [docTo]
  cases docTo js wh s k with
  | none => rfl
  | some out => simp only; rw [if_neg (by omega), if_pos hd]
/-- a job that is not done by its deadline -/
theorem doc_late {js : List Edf.Job} {wh s : List Int} {m t n : Nat} (hm : m < js.length) (hd : js[m].dead ≤ t) (hc : (Edf.cnt s (m : Int) t : Int) < js[m].cost) (ht : t ≤ n) : docM js wh s n = none := by
  unfold docM
  cases hdt : docTo js wh s n with
  | none => rfl
  | some out =>
    simp only
    have hlate : ∀ u, t ≤ u → u < n → s.getD u (-1) ≠ (m : Int) := fun u h1 h2 e => by
      have := docTo_late (js := js) (wh := wh) (s := s) h2 (by rw [e]; omega) (by rw [e, Edf.dead_get hm]; omega)
      rw [hdt] at this
      cases this
    have he := Edf.cnt_eq s (m : Int) ht (fun u h1 h2 => hlate u h1 h2)
    rw [if_neg]
    intro hb
    have := List.all_eq_true.1 hb m (List.mem_range.2 hm)
    rw [List.getD_eq_getElem?_getD, List.getElem?_eq_getElem hm] at this
    have := of_decide_eq_true this
    simp only [Option.getD_some] at this
    rw [he] at this
    omega
theorem take_tAt {T : List Int} {k : Nat} (h : k < T.length) : T.take (k + 1) = T.take k ++ [tAt T k] := by
  rw [List.take_add_one, List.getElem?_eq_getElem h, tAt_eq h]
  rfl
theorem doc_run {l : List Tk} {n t : Nat} {L D T s : List Int} (R : Rnd l n) (h : TInv l t L D T) (ht : t ≤ n) (hs : ∀ u, u < t → s.getD u (-1) = (schT l n T).getD u (-1)) : ∀ k, k ≤ t → docTo (jobsM l n l.length) (whoM l n l.length) s k = some (T.take k)
  | 0, _ => by rw [List.take_zero]; rfl
  | k + 1, hk => by
    rw [docTo, doc_run R h ht hs k (by omega)]
    simp only
    have hlT := h.lT
    rw [hs k (by omega), schT_at (by omega), take_tAt (by omega)]
    rcases lo_of h (show k < t by omega) with h1 | ⟨i, hi, h1⟩
    · rw [h1]; rfl
    · have hd := div_in (rgt R.rt hi).2.2.2 (R.dv i hi) (show k < n by omega)
      have he := h.early i hi k (by omega) h1
      rw [h1]
      unfold ixM
      rw [if_neg (show ¬ ((i : Int) < 0) by omega), Int.toNat_natCast, dead_ix hi hd]
      have h3 := mod_sub k (pN l i)
      have h5 := div_mul_le k (pN l i)
      rw [if_neg (Int.not_lt.2 (Int.natCast_nonneg _)), if_neg (by omega), Int.toNat_natCast, List.getD_eq_getElem?_getD, who_at l n hi hd]
      rfl
end Go.Proofs.Ytkhbnklaglnfdaa
