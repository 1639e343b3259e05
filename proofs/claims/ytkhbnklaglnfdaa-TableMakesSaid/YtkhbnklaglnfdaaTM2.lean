/- Plain: the stretches at which a demand grows. -/
import Derived.Test.YtkhbnklaglnfdaaTM1
namespace Go.Proofs.Ytkhbnklaglnfdaa

def isPt1 (t : Tk) (n : Int) : Bool := decide (t.dead ≤ n ∧ (n - t.dead) % t.period = 0)
def isPt (l : List Tk) (n : Int) : Bool := l.any (isPt1 · n)
def nxt (t : Tk) (c : Int) : Int := if c ≤ t.dead then t.dead else t.dead + t.period * ((c - t.dead + t.period - 1) / t.period)
/-- the points below c -/
def ptsTo (l : List Tk) (c : Nat) : List Int := ((List.range c).filter (fun (m : Nat) => isPt l (m : Int))).map (fun (m : Nat) => (m : Int))

section
variable {t : Tk} (h : rightT t = true)
include h
theorem nxt_bd (c : Int) : c ≤ nxt t c ∧ t.dead ≤ nxt t c ∧ nxt t c ≤ max t.dead (c + t.period - 1) := by
  have hr := rightT_t h
  unfold nxt
  split
  · omega
  · have e := Int.mul_ediv_add_emod (c - t.dead + t.period - 1) t.period
    have h1 := Int.emod_nonneg (c - t.dead + t.period - 1) (show t.period ≠ 0 by omega)
    have h2 := Int.emod_lt_of_pos (c - t.dead + t.period - 1) (show 0 < t.period by omega)
    omega
theorem nxt_pt (c : Int) : isPt1 t (nxt t c) = true := by
  have hb := nxt_bd h c
  refine decide_eq_true ⟨hb.2.1, ?_⟩
  unfold nxt
  split
  · rw [Int.sub_self]; simp
  · rw [show t.dead + t.period * ((c - t.dead + t.period - 1) / t.period) - t.dead = t.period * ((c - t.dead + t.period - 1) / t.period) by omega, Int.mul_emod_right]
theorem pt_gap {m n : Int} (hm : isPt1 t m = true) (hn : isPt1 t n = true) (hlt : n < m) : n + t.period ≤ m := by
  have hr := rightT_t h
  have a := of_decide_eq_true hm
  have b := of_decide_eq_true hn
  have e1 := Int.mul_ediv_add_emod (m - t.dead) t.period
  have e2 := Int.mul_ediv_add_emod (n - t.dead) t.period
  rw [a.2] at e1
  rw [b.2] at e2
  have h1 : (n - t.dead) / t.period < (m - t.dead) / t.period := by
    rcases Int.lt_or_le ((n - t.dead) / t.period) ((m - t.dead) / t.period) with h' | h'
    · exact h'
    · have := Int.mul_le_mul_of_nonneg_left h' (show 0 ≤ t.period by omega)
      omega
  have h2 := Int.mul_le_mul_of_nonneg_left (show (n - t.dead) / t.period + 1 ≤ (m - t.dead) / t.period by omega) (show 0 ≤ t.period by omega)
  rw [Int.mul_add] at h2
  omega
theorem nxt_least {c m : Int} (hm : isPt1 t m = true) (hc : c ≤ m) : nxt t c ≤ m := by
  have hr := rightT_t h
  rcases Int.lt_or_le m (nxt t c) with h' | h'
  · have h1 := pt_gap h (nxt_pt h c) hm h'
    have h2 := (nxt_bd h c).2.2
    have h3 := of_decide_eq_true hm
    omega
  · exact h'
theorem nxt_eq {c d : Int} (h1 : c ≤ d) (h2 : d ≤ nxt t c) : nxt t d = nxt t c := by
  have a := nxt_least h (nxt_pt h c) h2
  have b := nxt_least h (nxt_pt h d) (show c ≤ nxt t d from Int.le_trans h1 (nxt_bd h d).1)
  omega
theorem pt_next {n : Int} (hn : isPt1 t n = true) : isPt1 t (n + t.period) = true := by
  have hr := rightT_t h
  have b := of_decide_eq_true hn
  refine decide_eq_true ⟨by omega, ?_⟩
  rw [show n + t.period - t.dead = (n - t.dead) + t.period by omega, Int.add_emod_right]
  exact b.2
theorem nxt_step {n : Int} (hn : isPt1 t n = true) : nxt t (n + 1) = n + t.period := by
  have hr := rightT_t h
  have a := nxt_least h (pt_next h hn) (show n + 1 ≤ n + t.period by omega)
  have b := pt_gap h (nxt_pt h (n + 1)) hn (by have := (nxt_bd h (n + 1)).1; omega)
  omega
theorem nxt_self {n : Int} (hn : isPt1 t n = true) : nxt t n = n := by
  have a := nxt_least h hn (Int.le_refl n)
  have b := (nxt_bd h n).1
  omega
theorem nxt_zero : nxt t 0 = t.dead := by
  have hr := rightT_t h
  unfold nxt
  rw [if_pos (by omega)]
end

theorem isPt_t {l : List Tk} {n : Int} (h : isPt l n = true) : ∃ t ∈ l, isPt1 t n = true := List.any_eq_true.1 h
theorem isPt_mk {l : List Tk} {n : Int} {t : Tk} (ht : t ∈ l) (h : isPt1 t n = true) : isPt l n = true := List.any_eq_true.2 ⟨t, ht, h⟩
theorem pts_snoc {l : List Tk} {c : Nat} (h : isPt l (c : Int) = true) : ptsTo l (c + 1) = ptsTo l c ++ [(c : Int)] := by
  unfold ptsTo
  rw [List.range_succ, List.filter_append]
  simp [h]
theorem pts_skip {l : List Tk} {c : Nat} (h : isPt l (c : Int) = false) : ptsTo l (c + 1) = ptsTo l c := by
  unfold ptsTo
  rw [List.range_succ, List.filter_append]
  simp [h]
theorem pts_far {l : List Tk} {c : Nat} : ∀ {k : Nat}, (∀ m : Nat, c ≤ m → m < c + k → isPt l (m : Int) = false) → ptsTo l (c + k) = ptsTo l c
  | 0, _ => rfl
  | k + 1, h => by
    rw [show c + (k + 1) = (c + k) + 1 by omega, pts_skip (h (c + k) (by omega) (by omega))]
    exact pts_far (fun m h1 h2 => h m h1 (by omega))
theorem pts_to {l : List Tk} {c d : Nat} (hcd : c ≤ d) (h : ∀ m : Nat, c ≤ m → m < d → isPt l (m : Int) = false) : ptsTo l d = ptsTo l c := by
  obtain ⟨k, rfl⟩ := Nat.exists_eq_add_of_le hcd
  exact pts_far h
theorem pts_len (l : List Tk) (c : Nat) : (ptsTo l c).length ≤ c := by
  unfold ptsTo
  rw [List.length_map]
  have := List.length_filter_le (fun (m : Nat) => isPt l (m : Int)) (List.range c)
  simpa using this
theorem pts_mem {l : List Tk} {c : Nat} {x : Int} : x ∈ ptsTo l c ↔ 0 ≤ x ∧ x < c ∧ isPt l x = true := by
  unfold ptsTo
  simp only [List.mem_map, List.mem_filter, List.mem_range]
  constructor
  · rintro ⟨m, ⟨h1, h2⟩, rfl⟩
    exact ⟨by omega, by omega, h2⟩
  · rintro ⟨h1, h2, h3⟩
    obtain ⟨m, rfl⟩ := Int.eq_ofNat_of_zero_le h1
    exact ⟨m, ⟨by omega, h3⟩, rfl⟩
/-- none is left from c on, up to u -/
theorem pts_done {l : List Tk} (hr : ∀ t ∈ l, rightT t = true) {c d : Nat} (hcd : c ≤ d) (h : ∀ t ∈ l, (d : Int) ≤ nxt t c) : ptsTo l d = ptsTo l c := by
  refine pts_to hcd fun m h1 h2 => ?_
  cases hp : isPt l (m : Int)
  · rfl
  · obtain ⟨t, ht, hp⟩ := isPt_t hp
    have a := nxt_least (hr t ht) hp (show (c : Int) ≤ m by omega)
    have b := h t ht
    omega
/-- the next one -/
theorem pts_one {l : List Tk} (hr : ∀ t ∈ l, rightT t = true) {c d : Nat} (hcd : c ≤ d) (h : ∀ t ∈ l, (d : Int) ≤ nxt t c) {t : Tk} (ht : t ∈ l) (he : (d : Int) = nxt t c) : ptsTo l (d + 1) = ptsTo l c ++ [(d : Int)] := by
  rw [pts_snoc (isPt_mk ht (by rw [he]; exact nxt_pt (hr t ht) c)), pts_done hr hcd h]

/-- a demand grows at points alone -/
theorem dem1_flat {t : Tk} (h : rightT t = true) {n : Int} (h0 : 0 ≤ n) (hp : isPt1 t (n + 1) = false) : dem1 t (n + 1) = dem1 t n := by
  have hr := rightT_t h
  have hnp := of_decide_eq_false hp
  unfold dem1
  by_cases h1 : t.dead ≤ n
  · rw [if_pos (by omega), if_pos h1]
    have h2 : ¬ (n + 1 - t.dead) % t.period = 0 := fun e => hnp ⟨by omega, e⟩
    have h3 : (n + 1 - t.dead) / t.period = (n - t.dead) / t.period := by
      have e := Int.mul_ediv_add_emod (n + 1 - t.dead) t.period
      have h4 := Int.emod_nonneg (n + 1 - t.dead) (show t.period ≠ 0 by omega)
      have h5 := Int.emod_lt_of_pos (n + 1 - t.dead) (show 0 < t.period by omega)
      have e2 : n - t.dead = ((n + 1 - t.dead) % t.period - 1) + t.period * ((n + 1 - t.dead) / t.period) := by omega
      have q : ((n + 1 - t.dead) % t.period - 1) / t.period = 0 := Int.ediv_eq_zero_of_lt (by omega) (by omega)
      rw [e2, Int.add_mul_ediv_left _ _ (by omega), q]
      omega
    rw [h3]
  · by_cases h2 : t.dead ≤ n + 1
    · exact absurd ⟨h2, by rw [show n + 1 - t.dead = 0 by omega]; simp⟩ hnp
    · rw [if_neg h2, if_neg h1]
theorem demL_flat {l : List Tk} (hr : ∀ t ∈ l, rightT t = true) {n : Int} (h0 : 0 ≤ n) (hp : isPt l (n + 1) = false) : demL l (n + 1) = demL l n := by
  unfold demL sumF
  congr 1
  apply List.map_congr_left
  intro t ht
  refine dem1_flat (hr t ht) h0 ?_
  cases h : isPt1 t (n + 1)
  · rfl
  · rw [isPt_mk ht h] at hp; cases hp
theorem demL_zero {l : List Tk} (hr : ∀ t ∈ l, rightT t = true) : demL l 0 = 0 := by
  unfold demL
  have : ∀ t ∈ l, dem1 t 0 = 0 := fun t ht => by
    have := rightT_t (hr t ht)
    unfold dem1
    rw [if_neg (by omega)]
  induction l with
  | nil => rfl
  | cons t l ih =>
    rw [sumF_cons, this t (by simp), ih (fun u hu => hr u (by simp [hu])) (fun u hu => this u (by simp [hu]))]
    rfl

/-! the first bad stretch -/
def badP (l : List Tk) (n : Int) : Bool := decide (n < demL l n)
/-- the first bad stretch below c; 0: none -/
def badTo (l : List Tk) (c : Nat) : Nat := ((List.range c).find? (fun (m : Nat) => badP l (m : Int))).getD 0
theorem bad_pt {l : List Tk} (hr : ∀ t ∈ l, rightT t = true) {n : Nat} (hb : badP l (n : Int) = true) (hm : ∀ m : Nat, m < n → badP l (m : Int) = false) : isPt l (n : Int) = true := by
  have hb' := of_decide_eq_true hb
  cases n with
  | zero => rw [show ((0 : Nat) : Int) = 0 from rfl, demL_zero hr] at hb'; omega
  | succ n =>
    cases hp : isPt l ((n + 1 : Nat) : Int)
    · have e : ((n + 1 : Nat) : Int) = (n : Int) + 1 := by omega
      rw [e] at hp hb'
      rw [demL_flat hr (by omega) hp] at hb'
      have := of_decide_eq_false (hm n (by omega))
      omega
    · rfl
theorem bad_find {l : List Tk} (hr : ∀ t ∈ l, rightT t = true) (c : Nat) : (ptsTo l c).find? (badP l) = ((List.range c).find? (fun (m : Nat) => badP l (m : Int))).map (fun (m : Nat) => (m : Int)) := by
  induction c with
  | zero => rfl
  | succ c ih =>
    rw [List.range_succ, List.find?_append]
    cases hp : isPt l (c : Int)
    · rw [pts_skip hp, ih]
      cases hf : (List.range c).find? (fun (m : Nat) => badP l (m : Int)) with
      | some m => simp
      | none =>
        have hb : badP l (c : Int) = false := by
          cases hb : badP l (c : Int)
          · rfl
          · rw [List.find?_eq_none] at hf
            rw [bad_pt hr hb (fun m hm => by have := hf m (by simpa using hm); simpa using this)] at hp
            cases hp
        simp [hb]
    · rw [pts_snoc hp, List.find?_append, ih]
      cases hf : (List.range c).find? (fun (m : Nat) => badP l (m : Int)) with
      | some m => simp
      | none => cases hb : badP l (c : Int) <;> simp [hb]
end Go.Proofs.Ytkhbnklaglnfdaa
