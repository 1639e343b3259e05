/- Plain: the document's table is the program's; it keeps the set's deadlines; there is one just if no stretch of a round is bad. -/
import Derived.Test.YtkhbnklaglnfdaaM4
import Derived.Test.YtkhbnklaglnfdaaTM2
namespace Go.Proofs.Ytkhbnklaglnfdaa

theorem run_fail {l : List Tk} : ∀ {n : Nat}, runM l n = none → ∃ t L D T, t < n ∧ runM l t = some (L, D, T) ∧ innM l t L D l.length = none
  | 0, h => by cases h
  | n + 1, h => by
    rw [runM] at h
    cases hm : runM l n with
    | none =>
      obtain ⟨t, L, D, T, h1, h2, h3⟩ := run_fail hm
      exact ⟨t, L, D, T, by omega, h2, h3⟩
    | some x =>
      obtain ⟨L, D, T⟩ := x
      rw [hm] at h
      simp only at h
      cases hi : innM l n L D l.length with
      | none => exact ⟨n, L, D, T, Nat.lt_succ_self _, hm, hi⟩
      | some y =>
        obtain ⟨L', D', f⟩ := y
        rw [hi] at h
        cases h
section
variable {l : List Tk} {n : Nat} {s : List Int}
theorem sched_cut {js : List Edf.Job} {s : List Int} {n t : Nat} (h : Edf.Sched js s n) (ht : t ≤ n) : Edf.Sched js s t := fun u hu => h u (by omega)
theorem sched_same (R : Rnd l n) (hs : Edf.Sched (jobsM l n l.length) s n) {t : Nat} {L D T : List Int} (h : TInv l t L D T) (ht : t ≤ n) : ∀ u, u < t → s.getD u (-1) = (schT l n T).getD u (-1) :=
  Edf.sched_unique _ _ _ t (sched_cut hs ht) (sched_schT R h ht) t (Nat.le_refl _)
theorem cnt_same_schT {T : List Int} {t : Nat} (h : ∀ u, u < t → s.getD u (-1) = (schT l n T).getD u (-1)) (x : Int) : Edf.cnt s x t = Edf.cnt (schT l n T) x t := Edf.cnt_congr _ _ _ _ (fun u hu => by rw [h u hu])
/-- a job whose ticks are fewer than its cost, at its deadline -/
theorem doc_none (R : Rnd l n) (hs : Edf.Sched (jobsM l n l.length) s n) {t : Nat} {L D T : List Int} (h : TInv l t L D T) (ht : t ≤ n) {i q : Nat} (hi : i < l.length) (hq : q < n / pN l i) (hd : ((q * pN l i : Nat) : Int) + (tk l i).dead ≤ t)
    (hc : cR T i (q * pN l i) (min (t - q * pN l i) (pN l i)) < (tk l i).cost) : docM (jobsM l n l.length) (whoM l n l.length) s n = none := by
  have h1 := jobs_at l n hi hq
  have h2 := (List.getElem?_eq_some_iff.1 h1).1
  have h3 : (jobsM l n l.length)[offM l n i + q] = jobM l i q := by
    rw [List.getElem?_eq_getElem h2] at h1
    injection h1
  refine doc_late h2 (t := t) (by rw [h3]; exact hd) ?_ ht
  rw [h3, cnt_same_schT (sched_same R hs h ht), cnt_schT R h ht hi hq t (Nat.le_refl _)]
  exact hc
theorem doc_make (R : Rnd l n) (hn : 1 ≤ n) {m : Nat} (hh : hypM l m l.length = some n) (hs : Edf.Sched (jobsM l n l.length) s n) : docM (jobsM l n l.length) (whoM l n l.length) s n = makeM l m := by
  unfold makeM
  rw [hh]
  simp only
  cases hr : runM l n with
  | none =>
    simp only
    obtain ⟨t, L, D, T, htn, h1, h2⟩ := run_fail hr
    have h := run_inv R.rt h1
    obtain ⟨i, hi, h3, h4⟩ := inn_late R.rt h (Nat.le_refl _) h2
    cases t with
    | zero => rw [h.z rfl i hi] at h3; omega
    | succ v =>
      obtain ⟨s1, s2⟩ := h.st i hi v rfl
      have hP := (rgt R.rt hi).2.2.2
      have e1 := mod_sub v (pN l i)
      have e2 := div_mul_le v (pN l i)
      have e3 := Nat.mod_lt v (show 0 < pN l i by omega)
      refine doc_none R hs h (by omega) hi (div_in hP (R.dv i hi) (show v < n by omega)) (by omega) ?_
      rw [show min (v + 1 - v / pN l i * pN l i) (pN l i) = v + 1 - v / pN l i * pN l i by omega]
      omega
  | some x =>
    obtain ⟨L, D, T⟩ := x
    simp only
    have h := run_inv R.rt hr
    obtain ⟨v, rfl⟩ : ∃ v, n = v + 1 := ⟨n - 1, by omega⟩
    have key : ∀ i, i < l.length → tAt L i = (tk l i).cost - cR T i (v / pN l i * pN l i) (pN l i) ∧ v / pN l i * pN l i + pN l i = v + 1 := fun i hi => by
      have hP := (rgt R.rt hi).2.2.2
      have e1 := div_prev0 hP (R.dv i hi)
      obtain ⟨s1, _⟩ := h.st i hi v rfl
      rw [show v + 1 - v / pN l i * pN l i = pN l i by omega] at s1
      exact ⟨s1, e1⟩
    by_cases hl : lateM L = true
    · rw [if_pos hl]
      obtain ⟨x, hx, h0⟩ := List.any_eq_true.1 hl
      obtain ⟨i, hi, rfl⟩ := List.getElem_of_mem hx
      have h0 := of_decide_eq_true h0
      have hil : i < l.length := by rw [← h.lL]; exact hi
      have hP := rgt R.rt hil
      obtain ⟨k1, k2⟩ := key i hil
      rw [tAt_eq hi] at k1
      refine doc_none R hs h (Nat.le_refl _) hil (div_in hP.2.2.2 (R.dv i hil) (show v < v + 1 by omega)) (by omega) ?_
      rw [show min (v + 1 - v / pN l i * pN l i) (pN l i) = pN l i by omega]
      omega
    · rw [if_neg hl]
      unfold docM
      rw [doc_run R h (Nat.le_refl _) (sched_same R hs h (Nat.le_refl _)) (v + 1) (Nat.le_refl _), List.take_of_length_le (by rw [h.lT]; exact Nat.le_refl _)]
      simp only
      rw [if_pos]
      refine List.all_eq_true.2 fun k hk => ?_
      have hk := List.mem_range.1 hk
      have hk2 := hk
      rw [jobs_len] at hk2
      obtain ⟨i, q, hi, hq, rfl⟩ := jobs_ix l (v + 1) hk2
      refine decide_eq_true ?_
      rw [List.getD_eq_getElem?_getD, jobs_at l (v + 1) hi hq]
      simp only [Option.getD_some, jobM]
      rw [cnt_same_schT (sched_same R hs h (Nat.le_refl _)), cnt_schT R h (Nat.le_refl _) hi hq (v + 1) (Nat.le_refl _)]
      have hP := (rgt R.rt hi).2.2.2
      obtain ⟨k1, k2⟩ := key i hi
      have hqn : q * pN l i + pN l i ≤ v + 1 := by
        have h1 := Nat.mul_le_mul_right (pN l i) (show q + 1 ≤ (v + 1) / pN l i from hq)
        have h2 := div_mul_le (v + 1) (pN l i)
        rw [Nat.add_mul] at h1
        omega
      rw [show min (v + 1 - q * pN l i) (pN l i) = pN l i by omega]
      by_cases hlt : q * pN l i + pN l i < v + 1
      · rw [h.done i hi q hlt]; exact Int.le_refl _
      · have hqe : q = v / pN l i := Nat.eq_of_mul_eq_mul_right (show 0 < pN l i by omega) (by omega)
        rw [hqe]
        have h9 : ¬ 0 < tAt L i := fun hp => hl (late_t2 h.lL hi hp)
        omega
where
  late_t2 {L : List Int} {N i : Nat} (hL : L.length = N) (hi : i < N) (h : 0 < tAt L i) : lateM L = true := by
    subst hL
    rw [tAt_eq hi] at h
    exact List.any_eq_true.2 ⟨L[i], List.getElem_mem hi, decide_eq_true h⟩
/-- what a made table keeps -/
theorem make_keeps (R : Rnd l n) (hn : 1 ≤ n) (hn2 : n ≤ 4096) {m : Nat} (hh : hypM l m l.length = some n) {T : List Int} (hm : makeM l m = some T) : T.length = n ∧ KeepsP l T := by
  unfold makeM at hm
  rw [hh] at hm
  simp only at hm
  cases hr : runM l n with
  | none => rw [hr] at hm; cases hm
  | some x =>
    obtain ⟨L, D, T'⟩ := x
    rw [hr] at hm
    simp only at hm
    have h := run_inv R.rt hr
    obtain ⟨v, rfl⟩ : ∃ v, n = v + 1 := ⟨n - 1, by omega⟩
    by_cases hl : lateM L = true
    · rw [if_pos hl] at hm; cases hm
    · rw [if_neg hl] at hm
      injection hm with hm
      subst hm
      refine ⟨h.lT, by rw [h.lT]; exact hn, by rw [h.lT]; exact hn2, fun u hu => ?_, fun i hi => ?_⟩
      · rw [h.lT] at hu
        have := lo_of h hu
        rw [← tAt_eq]
        omega
      · have hg : l[i] = tk l i := (getD_tk hi).symm
        have hP := rgt R.rt hi
        rw [hg]
        show RowOk T' i (pN l i) (tk l i).dead.toNat (tk l i).cost
        refine ⟨by rw [h.lT]; exact R.dv i hi, fun q hq => ?_⟩
        rw [h.lT] at hq
        have hqn : q * pN l i + pN l i ≤ v + 1 := by
          have h1 := Nat.mul_le_mul_right (pN l i) (show q + 1 ≤ (v + 1) / pN l i from hq)
          have h2 := div_mul_le (v + 1) (pN l i)
          rw [Nat.add_mul] at h1
          omega
        refine ⟨fun j hj hx => ?_, ?_⟩
        · have := h.early i hi (q * pN l i + j) (by omega) hx
          rw [Nat.mul_comm q, Nat.mul_add_mod, Nat.mod_eq_of_lt hj] at this
          omega
        · by_cases hlt : q * pN l i + pN l i < v + 1
          · exact h.done i hi q hlt
          · have e1 := div_prev0 hP.2.2.2 (R.dv i hi)
            have hqe : q = v / pN l i := Nat.eq_of_mul_eq_mul_right (show 0 < pN l i by omega) (by omega)
            rw [hqe]
            obtain ⟨s1, _⟩ := h.st i hi v rfl
            rw [show v + 1 - v / pN l i * pN l i = pN l i by omega] at s1
            have h9 : ¬ 0 < tAt L i := fun hp => hl (doc_make.late_t2 h.lL hi hp)
            have h8 := h.nn i hi
            omega
end

/-! what a stretch of a round has to do -/
def loadS (js : List Edf.Job) (a b : Int) : Int := (js.map fun j => Edf.inJ j a b).sum
theorem load_eq (js : List Edf.Job) (a b : Int) : ∀ k, k ≤ js.length → Edf.loadTo js a b k = loadS (js.take k) a b
  | 0, _ => by simp [Edf.loadTo, loadS]
  | k + 1, hk => by
    rw [Edf.load_succ js a b k (by omega), load_eq js a b k (by omega), List.take_succ_eq_append_getElem (by omega)]
    unfold loadS
    rw [List.map_append, List.sum_append]
    simp only [List.map_cons, List.map_nil, List.sum_cons, List.sum_nil]
    omega
def ldT (l : List Tk) (i : Nat) (a b : Int) (N : Nat) : Int := loadS ((List.range N).map (jobM l i)) a b
theorem ld_succ (l : List Tk) (i : Nat) (a b : Int) (N : Nat) : ldT l i a b (N + 1) = ldT l i a b N + Edf.inJ (jobM l i N) a b := by
  unfold ldT loadS
  rw [List.range_succ]
  simp
theorem load_jobs (l : List Tk) (n : Nat) (a b : Int) : ∀ k, loadS (jobsM l n (k + 1)) a b = loadS (jobsM l n k) a b + ldT l k a b (n / pN l k) := fun k => by
  rw [jobsM]
  unfold ldT loadS
  simp
theorem dem_ge {t : Tk} {x : Int} {c : Nat} (hr : rightT t = true) (hc : c = 0 ∨ ((c : Int) - 1) * t.period + t.dead ≤ x) : t.cost * c ≤ dem1 t x := by
  have h := rightT_t hr
  unfold dem1
  rcases hc with rfl | hc
  · split
    · refine Int.le_trans (by simp) (Int.mul_nonneg (by omega) ?_)
      have := Int.ediv_nonneg (show 0 ≤ x - t.dead by omega) (show 0 ≤ t.period by omega)
      omega
    · simp
  · cases c with
    | zero =>
      simp only [Int.natCast_zero, Int.mul_zero]
      split
      · refine Int.mul_nonneg (by omega) ?_
        have := Int.ediv_nonneg (show 0 ≤ x - t.dead by omega) (show 0 ≤ t.period by omega)
        omega
      · exact Int.le_refl _
    | succ c =>
      have e : (((c + 1 : Nat) : Int) - 1) = (c : Int) := by omega
      rw [e] at hc
      have h0 : 0 ≤ (c : Int) * t.period := Int.mul_nonneg (by omega) (by omega)
      rw [if_pos (by omega)]
      refine Int.mul_le_mul_of_nonneg_left ?_ (by omega)
      have := (Int.le_ediv_iff_mul_le (show 0 < t.period by omega)).2 (show (c : Int) * t.period ≤ x - t.dead by omega)
      omega
section
variable {l : List Tk} {i : Nat}
theorem per_eq (hl : ∀ t ∈ l, rightT t = true) (hi : i < l.length) : (tk l i).period = ((pN l i : Nat) : Int) := by
  have h := rightT_t (hl _ (List.getElem_mem hi))
  unfold pN tk
  rw [getD_tk hi]
  omega
/-- no more than a stretch as long from the beginning -/
theorem ld_le (hl : ∀ t ∈ l, rightT t = true) (hi : i < l.length) (a b : Nat) (N : Nat) : ∃ c : Nat, ldT l i a b N = (tk l i).cost * c ∧ (c = 0 ∨ ∃ q1, a ≤ q1 * pN l i ∧ q1 + c ≤ N ∧ (((q1 + c - 1) * pN l i : Nat) : Int) + (tk l i).dead ≤ b) := by
  induction N with
  | zero => exact ⟨0, by simp [ldT, loadS], .inl rfl⟩
  | succ N ih =>
    obtain ⟨c, h1, h2⟩ := ih
    rw [ld_succ, h1]
    unfold Edf.inJ jobM
    simp only
    by_cases hin : (a : Int) ≤ ((N * pN l i : Nat) : Int) ∧ ((N * pN l i : Nat) : Int) + (tk l i).dead ≤ b
    · rw [if_pos hin]
      refine ⟨c + 1, by rw [Int.natCast_add, Int.mul_add]; simp, .inr ?_⟩
      rcases h2 with rfl | ⟨q1, h3, h4, h5⟩
      · exact ⟨N, by omega, by omega, by simpa using hin.2⟩
      · refine ⟨q1, h3, by omega, ?_⟩
        have := Nat.mul_le_mul_right (pN l i) (show q1 + (c + 1) - 1 ≤ N by omega)
        omega
    · rw [if_neg hin]
      refine ⟨c, by omega, ?_⟩
      rcases h2 with rfl | ⟨q1, h3, h4, h5⟩
      · exact .inl rfl
      · exact .inr ⟨q1, h3, by omega, h5⟩
theorem ld_dem (hl : ∀ t ∈ l, rightT t = true) (hi : i < l.length) (a b N : Nat) : ldT l i a b N ≤ dem1 (tk l i) ((b : Int) - a) := by
  obtain ⟨c, h1, h2⟩ := ld_le hl hi a b N
  have hr : rightT (tk l i) = true := by unfold tk; rw [getD_tk hi]; exact hl _ (List.getElem_mem hi)
  rw [h1]
  refine dem_ge hr ?_
  rcases h2 with rfl | ⟨q1, h3, h4, h5⟩
  · exact .inl rfl
  · cases c with
    | zero => exact .inl rfl
    | succ c =>
      right
      rw [per_eq hl hi, show (((c + 1 : Nat) : Int) - 1) = (c : Int) by omega]
      rw [show q1 + (c + 1) - 1 = q1 + c by omega, Nat.add_mul] at h5
      have : ((c * pN l i : Nat) : Int) = (c : Int) * (pN l i : Int) := by simp
      omega
/-- from the beginning, it is just that -/
theorem ld_zero (hl : ∀ t ∈ l, rightT t = true) (hi : i < l.length) {n b : Nat} (hn : n % pN l i = 0) (hb : b ≤ n) : ldT l i 0 b (n / pN l i) = dem1 (tk l i) b := by
  have hr : rightT (tk l i) = true := by unfold tk; rw [getD_tk hi]; exact hl _ (List.getElem_mem hi)
  have hg := rgt hl hi
  obtain ⟨j, hj1, hj2⟩ : ∃ j : Nat, (b : Int) < (tk l i).dead + j * (tk l i).period ∧ (j = 0 ∨ (tk l i).dead + ((j : Int) - 1) * (tk l i).period ≤ b) := by
    rw [per_eq hl hi]
    by_cases hd : (tk l i).dead ≤ b
    · obtain ⟨y, hy⟩ := Int.eq_ofNat_of_zero_le (show 0 ≤ (b : Int) - (tk l i).dead by omega)
      have e := Nat.div_add_mod y (pN l i)
      have e2 := Nat.mod_lt y (show 0 < pN l i by omega)
      refine ⟨y / pN l i + 1, ?_, .inr ?_⟩
      · have h3 : ((y / pN l i + 1 : Nat) : Int) * (pN l i : Int) = ((pN l i * (y / pN l i) : Nat) : Int) + pN l i := by
          rw [Nat.mul_comm]
          push_cast
          rw [Int.add_mul]
          simp
        rw [h3]
        omega
      · have h3 : (((y / pN l i + 1 : Nat) : Int) - 1) * (pN l i : Int) = ((pN l i * (y / pN l i) : Nat) : Int) := by
          rw [Nat.mul_comm]
          push_cast
          congr 1
          omega
        rw [h3]
        omega
    · exact ⟨0, by simp; omega, .inl rfl⟩
  rw [← dem_jobs hr hj1 hj2]
  have key : ∀ q : Nat, ((q * pN l i : Nat) : Int) + (tk l i).dead ≤ b ↔ q < j := fun q => by
    rw [per_eq hl hi] at hj1 hj2
    constructor
    · intro h
      rcases Nat.lt_or_ge q j with h1 | h1
      · exact h1
      · have h2 := Nat.mul_le_mul_right (pN l i) h1
        have h3 : ((j * pN l i : Nat) : Int) = (j : Int) * (pN l i : Int) := by simp
        omega
    · intro h
      rcases hj2 with h0 | h2
      · omega
      · have h1 := Nat.mul_le_mul_right (pN l i) (show q ≤ j - 1 by omega)
        have h3 : (((j - 1) * pN l i : Nat) : Int) = ((j : Int) - 1) * (pN l i : Int) := by
          rw [Int.natCast_mul, Int.natCast_sub (by omega)]
          rfl
        omega
  have hS : ∀ N : Nat, ldT l i 0 b N = (tk l i).cost * ((min N j : Nat) : Int) := fun N => by
    induction N with
    | zero => simp [ldT, loadS]
    | succ N ih =>
      rw [ld_succ, ih]
      unfold Edf.inJ jobM
      simp only
      by_cases h : N < j
      · rw [if_pos ⟨Int.natCast_nonneg _, (key N).2 h⟩, show min (N + 1) j = min N j + 1 by omega, Int.natCast_add, Int.mul_add]
        simp
      · rw [if_neg (fun h2 => h ((key N).1 h2.2)), show min (N + 1) j = min N j by omega]
        omega
  rw [hS]
  congr 2
  refine Nat.min_eq_right ?_
  cases j with
  | zero => exact Nat.zero_le _
  | succ j =>
    have h1 := (key j).2 (Nat.lt_succ_self _)
    refine (Nat.le_div_iff_mul_le (show 0 < pN l i by omega)).2 ?_
    have h2 := Nat.div_add_mod n (pN l i)
    rw [hn, Nat.mul_comm] at h2
    have h3 : j * pN l i < n / pN l i * pN l i := by omega
    have h4 := Nat.lt_of_mul_lt_mul_right h3
    have h5 := Nat.mul_le_mul_right (pN l i) (show j + 1 ≤ n / pN l i from h4)
    omega
end
theorem dem_take {l : List Tk} (x : Int) {k : Nat} (hk : k < l.length) : sumF (dem1 · x) (l.take (k + 1)) = sumF (dem1 · x) (l.take k) + dem1 (tk l k) x := by
  rw [sumF_step _ _ _ hk]
  unfold tk
  rw [getD_tk hk]
section
variable {l : List Tk} {n : Nat}
theorem load_le_dem (R : Rnd l n) (a b : Nat) : ∀ k, k ≤ l.length → loadS (jobsM l n k) a b ≤ sumF (dem1 · ((b : Int) - a)) (l.take k)
  | 0, _ => by simp [jobsM, loadS, sumF]
  | k + 1, hk => by
    rw [load_jobs, dem_take _ (by omega)]
    have h1 := load_le_dem R a b k (by omega)
    have h2 := ld_dem R.rt (show k < l.length by omega) a b (n / pN l k)
    omega
theorem load_zero (R : Rnd l n) {b : Nat} (hb : b ≤ n) : ∀ k, k ≤ l.length → loadS (jobsM l n k) 0 b = sumF (dem1 · (b : Int)) (l.take k)
  | 0, _ => by simp [jobsM, loadS, sumF]
  | k + 1, hk => by
    rw [load_jobs, dem_take _ (by omega), load_zero R hb k (by omega), ld_zero R.rt (by omega) (R.dv k (by omega)) hb]
/-- every job ends within the round -/
theorem job_ok (R : Rnd l n) (hn : n ≤ 500) : ∀ j ∈ jobsM l n l.length, Edf.okJ j = true ∧ j.dead ≤ n := fun j hj => by
  obtain ⟨m, hm, rfl⟩ := List.getElem_of_mem hj
  have hm2 := hm
  rw [jobs_len] at hm2
  obtain ⟨i, q, hi, hq, rfl⟩ := jobs_ix l n hm2
  have h1 := jobs_at l n hi hq
  rw [List.getElem?_eq_getElem hm] at h1
  injection h1 with h1
  rw [h1]
  have hP := rgt R.rt hi
  have hqn : q * pN l i + pN l i ≤ n := by
    have h1 := Nat.mul_le_mul_right (pN l i) (show q + 1 ≤ n / pN l i from hq)
    have h2 := div_mul_le n (pN l i)
    rw [Nat.add_mul] at h1
    omega
  unfold jobM Edf.okJ
  simp only [decide_eq_true_eq]
  omega
theorem end_le (l : List Edf.Job) (m : Int) (h0 : 0 ≤ m) (h : ∀ j ∈ l, j.dead ≤ m) : Edf.endJ l ≤ m := by
  have key : ∀ (l : List Edf.Job) (e : Int), e ≤ m → (∀ j ∈ l, j.dead ≤ m) → l.foldl (fun e j => max e j.dead) e ≤ m := fun l => by
    induction l with
    | nil => intro e he _; exact he
    | cons x xs ih =>
      intro e he hx
      simp only [List.foldl_cons]
      refine ih _ ?_ (fun j hj => hx j (by simp [hj]))
      have := hx x (by simp)
      omega
  exact key l 0 h0 h
/-- the document's table is made just if no job is late -/
theorem doc_meets {s : List Int} (R : Rnd l n) (hn5 : n ≤ 500) (hlen : s.length = n) (hs : Edf.Sched (jobsM l n l.length) s n) : docM (jobsM l n l.length) (whoM l n l.length) s n ≠ none ↔ Edf.MeetsP (jobsM l n l.length) s := by
  have hok := job_ok R hn5
  constructor
  · intro h
    unfold docM at h
    cases hd : docTo (jobsM l n l.length) (whoM l n l.length) s n with
    | none => rw [hd] at h; exact absurd rfl h
    | some out =>
      rw [hd] at h
      simp only at h
      by_cases hb : doneB (jobsM l n l.length) s n = true
      · refine ⟨fun u => ?_, fun i hi => ⟨fun u hu => ?_, ?_⟩⟩
        · by_cases hu : u < n
          · rcases hs u hu with ⟨a1, _⟩ | ⟨i', a1, a2, _⟩ <;> omega
          · rw [List.getD_eq_getElem?_getD, List.getElem?_eq_none (by omega)]
            simp only [Option.getD_none]
            omega
        · have hun : u < n := by
            rcases Nat.lt_or_ge u n with h1 | h1
            · exact h1
            · rw [List.getD_eq_getElem?_getD, List.getElem?_eq_none (by omega)] at hu
              simp only [Option.getD_none] at hu
              omega
          refine ⟨?_, ?_⟩
          · rcases hs u hun with ⟨a1, _⟩ | ⟨i', a1, a2, a3, _⟩
            · omega
            · obtain rfl : i' = i := by omega
              obtain ⟨j, h1, h2, _⟩ := a3
              rw [List.getElem?_eq_getElem hi] at h1
              injection h1 with h1
              rw [h1]; exact h2
          · rcases Int.lt_or_le (u : Int) (jobsM l n l.length)[i].dead with h1 | h1
            · exact h1
            · have := docTo_late (js := jobsM l n l.length) (wh := whoM l n l.length) (s := s) hun (by rw [hu]; omega) (by rw [hu, Edf.dead_get hi]; exact h1)
              rw [hd] at this
              cases this
        · have h1 := List.all_eq_true.1 hb i (List.mem_range.2 hi)
          rw [List.getD_eq_getElem?_getD, List.getElem?_eq_getElem hi] at h1
          have h1 := of_decide_eq_true h1
          simp only [Option.getD_some] at h1
          have h2 := Edf.okJ_t (hok _ (List.getElem_mem hi)).1
          have h3 := Edf.sched_cnt_le _ s n hs i hi (by omega) n (Nat.le_refl _)
          rw [hlen]
          omega
      · rw [if_neg hb] at h; exact absurd rfl h
  · rintro ⟨m1, m2⟩ h
    have hT : ∀ k, k ≤ n → docTo (jobsM l n l.length) (whoM l n l.length) s k ≠ none := fun k => by
      induction k with
      | zero => intro _ h; cases h
      | succ k ih =>
        intro hk h
        rw [docTo] at h
        cases hd : docTo (jobsM l n l.length) (whoM l n l.length) s k with
        | none => exact ih (by omega) hd
        | some out =>
          rw [hd] at h
          simp only at h
          by_cases h1 : s.getD k (-1) < 0
          · rw [if_pos h1] at h; cases h
          · rw [if_neg h1] at h
            obtain ⟨i, hi⟩ := Int.eq_ofNat_of_zero_le (show 0 ≤ s.getD k (-1) by omega)
            have hil : i < (jobsM l n l.length).length := by have := m1 k; omega
            have h2 := (m2 i hil).1 k hi
            rw [hi, Edf.dead_get hil, if_neg (by omega)] at h
            cases h
    unfold docM at h
    cases hd : docTo (jobsM l n l.length) (whoM l n l.length) s n with
    | none => exact hT n (Nat.le_refl _) hd
    | some out =>
      rw [hd] at h
      simp only at h
      rw [if_pos] at h
      · cases h
      · refine List.all_eq_true.2 fun k hk => ?_
        have hk := List.mem_range.1 hk
        rw [List.getD_eq_getElem?_getD, List.getElem?_eq_getElem hk]
        refine decide_eq_true ?_
        simp only [Option.getD_some]
        have := (m2 k hk).2
        rw [hlen] at this
        omega
/-- no job is late just if no stretch of a round is bad -/
theorem meets_bad {s : List Int} (R : Rnd l n) (hn5 : n ≤ 500) (hlen : s.length = n) (hs : Edf.Sched (jobsM l n l.length) s n) : Edf.MeetsP (jobsM l n l.length) s ↔ ∀ m : Nat, m < n + 1 → badP l (m : Int) = false := by
  have hok := job_ok R hn5
  constructor
  · intro h m hm
    refine decide_eq_false ?_
    by_cases h0 : m = 0
    · subst h0
      rw [show ((0 : Nat) : Int) = 0 from rfl, demL_zero R.rt]
      omega
    · have h1 := Edf.meets_load _ s h 0 m (by omega)
      rw [load_eq _ _ _ _ (Nat.le_refl _), List.take_length] at h1
      rw [show ((0 : Nat) : Int) = 0 from rfl, load_zero R (show m ≤ n by omega) l.length (Nat.le_refl _), List.take_length] at h1
      unfold demL
      omega
  · intro h
    refine Edf.noOver_sched _ s n (end_le _ _ (by omega) (fun j hj => (hok j hj).2)) hlen hs (fun j hj => (hok j hj).1) (fun a b hab hb => ?_)
    have hbn : (b : Int) ≤ n := Int.le_trans hb (end_le _ _ (by omega) (fun j hj => (hok j hj).2))
    rw [load_eq _ _ _ _ (Nat.le_refl _), List.take_length]
    have h1 := load_le_dem R a b l.length (Nat.le_refl _)
    rw [List.take_length] at h1
    have h2 := of_decide_eq_false (h (b - a) (by omega))
    rw [show ((b - a : Nat) : Int) = (b : Int) - a by omega] at h2
    unfold demL at h2
    omega
/-- a table is made just if no stretch of a round is bad -/
theorem make_bad (R : Rnd l n) (hn : 1 ≤ n) (hn5 : n ≤ 500) {m : Nat} (hh : hypM l m l.length = some n) : (makeM l m).isSome = true ↔ ∀ k : Nat, k < n + 1 → badP l (k : Int) = false := by
  have hok := job_ok R hn5
  have hs := Edf.run_sched (jobsM l n l.length) n
  have hlen := (Edf.run_len (jobsM l n l.length) n).2
  rw [← meets_bad R hn5 hlen hs, ← doc_meets R hn5 hlen hs, doc_make R hn hh hs]
  cases makeM l m <;> simp
end
end Go.Proofs.Ytkhbnklaglnfdaa
