/- Plain: task sets, what they ask for, and the stretches at which that grows. -/
import Derived.KernelRfl
namespace Go.Proofs.Ytkhbnklaglnfdaa

structure Tk where
  cost : Int
  period : Int
  dead : Int

def rightT (t : Tk) : Bool := decide (1 ≤ t.cost ∧ t.cost ≤ t.dead ∧ t.dead ≤ t.period ∧ t.period ≤ 1048576)
def allT (l : List Tk) : Bool := decide (l.length ≤ 8) && l.all rightT
theorem rightT_t {t : Tk} (h : rightT t = true) : 1 ≤ t.cost ∧ t.cost ≤ t.dead ∧ t.dead ≤ t.period ∧ t.period ≤ 1048576 := of_decide_eq_true h
theorem allT_len {l : List Tk} (h : allT l = true) : l.length ≤ 8 := by
  unfold allT at h
  rw [Bool.and_eq_true] at h
  exact of_decide_eq_true h.1
theorem allT_mem {l : List Tk} (h : allT l = true) : ∀ t ∈ l, rightT t = true := by
  unfold allT at h
  rw [Bool.and_eq_true] at h
  exact List.all_eq_true.1 h.2
theorem allT_at {l : List Tk} (h : allT l = true) {k : Nat} (hk : k < l.length) : 1 ≤ l[k].cost ∧ l[k].cost ≤ l[k].dead ∧ l[k].dead ≤ l[k].period ∧ l[k].period ≤ 1048576 :=
  rightT_t (allT_mem h _ (List.getElem_mem hk))

def dem1 (t : Tk) (n : Int) : Int := if t.dead ≤ n then t.cost * ((n - t.dead) / t.period + 1) else 0
def req1 (t : Tk) (n : Int) : Int := t.cost * ((n + t.period - 1) / t.period)
def sumF (f : Tk → Int) (l : List Tk) : Int := (l.map f).sum
def demL (l : List Tk) (n : Int) : Int := sumF (dem1 · n) l
def reqL (l : List Tk) (n : Int) : Int := sumF (req1 · n) l

theorem sumF_nil (f : Tk → Int) : sumF f [] = 0 := rfl
theorem sumF_cons (f : Tk → Int) (t : Tk) (l : List Tk) : sumF f (t :: l) = f t + sumF f l := by simp [sumF]
theorem sumF_append (f : Tk → Int) (a b : List Tk) : sumF f (a ++ b) = sumF f a + sumF f b := by simp [sumF]
theorem sumF_step (f : Tk → Int) (l : List Tk) (k : Nat) (h : k < l.length) : sumF f (l.take (k + 1)) = sumF f (l.take k) + f l[k] := by
  rw [List.take_succ_eq_append_getElem h, sumF_append]
  simp [sumF]
theorem sumF_bd {f : Tk → Int} {B : Int} {l : List Tk} (h : ∀ t ∈ l, 0 ≤ f t ∧ f t ≤ B) : 0 ≤ sumF f l ∧ sumF f l ≤ l.length * B := by
  induction l with
  | nil => simp [sumF]
  | cons t l ih =>
    have h1 := h t (by simp)
    have h2 := ih (fun u hu => h u (by simp [hu]))
    rw [sumF_cons, List.length_cons]
    have : ((l.length + 1 : Nat) : Int) * B = l.length * B + B := by rw [Int.natCast_add, Int.add_mul]; simp
    omega
theorem sumF_le {f g : Tk → Int} {l : List Tk} (h : ∀ t ∈ l, f t ≤ g t) : sumF f l ≤ sumF g l := by
  induction l with
  | nil => simp [sumF]
  | cons t l ih =>
    have h1 := h t (by simp)
    have h2 := ih (fun u hu => h u (by simp [hu]))
    rw [sumF_cons, sumF_cons]
    omega
theorem sumF_add (f g : Tk → Int) (l : List Tk) : sumF (fun t => f t + g t) l = sumF f l + sumF g l := by
  induction l with
  | nil => simp [sumF]
  | cons t l ih => rw [sumF_cons, sumF_cons, sumF_cons, ih]; omega

theorem div_bd (a b : Int) (h : 0 ≤ a) (hb : 1 ≤ b) : 0 ≤ a / b ∧ a / b ≤ a := ⟨Int.ediv_nonneg h (by omega), Int.ediv_le_self _ h⟩
theorem mul_bd2 {a b A B : Int} (h1 : 0 ≤ a) (h2 : a ≤ A) (h3 : 0 ≤ b) (h4 : b ≤ B) : 0 ≤ a * b ∧ a * b ≤ A * B :=
  ⟨Int.mul_nonneg h1 h3, Int.mul_le_mul h2 h4 h3 (by omega)⟩
theorem dem1_bd {t : Tk} {n : Int} (h : rightT t = true) (h0 : 0 ≤ n) (h1 : n ≤ 1048576) : 0 ≤ dem1 t n ∧ dem1 t n ≤ 1099512676352 := by
  have hr := rightT_t h
  unfold dem1
  split
  · have hd := div_bd (n - t.dead) t.period (by omega) (by omega)
    have := mul_bd2 (a := t.cost) (b := (n - t.dead) / t.period + 1) (A := 1048576) (B := 1048577) (by omega) (by omega) (by omega) (by omega)
    omega
  · omega
theorem req1_bd {t : Tk} {n : Int} (h : rightT t = true) (h0 : 0 ≤ n) (h1 : n ≤ 1048576) : 0 ≤ req1 t n ∧ req1 t n ≤ 2199023255552 := by
  have hr := rightT_t h
  unfold req1
  have hd := div_bd (n + t.period - 1) t.period (by omega) (by omega)
  have := mul_bd2 (a := t.cost) (b := (n + t.period - 1) / t.period) (A := 1048576) (B := 2097152) (by omega) (by omega) (by omega) (by omega)
  omega
theorem demL_bd {l : List Tk} {n : Int} (h : allT l = true) (h0 : 0 ≤ n) (h1 : n ≤ 1048576) (k : Nat) : 0 ≤ sumF (dem1 · n) (l.take k) ∧ sumF (dem1 · n) (l.take k) ≤ 8796101410816 := by
  have hl := allT_len h
  have h2 := sumF_bd (f := (dem1 · n)) (B := 1099512676352) (l := l.take k) (fun t ht => dem1_bd (allT_mem h t (List.mem_of_mem_take ht)) h0 h1)
  have h3 : (l.take k).length ≤ 8 := by rw [List.length_take]; omega
  have h4 : ((l.take k).length : Int) * 1099512676352 ≤ 8 * 1099512676352 := Int.mul_le_mul_of_nonneg_right (by omega) (by omega)
  omega
theorem reqL_bd {l : List Tk} {n : Int} (h : allT l = true) (h0 : 0 ≤ n) (h1 : n ≤ 1048576) (k : Nat) : 0 ≤ sumF (req1 · n) (l.take k) ∧ sumF (req1 · n) (l.take k) ≤ 17592186044416 := by
  have hl := allT_len h
  have h2 := sumF_bd (f := (req1 · n)) (B := 2199023255552) (l := l.take k) (fun t ht => req1_bd (allT_mem h t (List.mem_of_mem_take ht)) h0 h1)
  have h3 : (l.take k).length ≤ 8 := by rw [List.length_take]; omega
  have h4 : ((l.take k).length : Int) * 2199023255552 ≤ 8 * 2199023255552 := Int.mul_le_mul_of_nonneg_right (by omega) (by omega)
  omega
theorem demL_all {l : List Tk} {n : Int} (h : allT l = true) (h0 : 0 ≤ n) (h1 : n ≤ 1048576) : 0 ≤ demL l n ∧ demL l n ≤ 8796101410816 := by
  have := demL_bd h h0 h1 l.length
  rw [List.take_length] at this
  exact this
theorem reqL_all {l : List Tk} {n : Int} (h : allT l = true) (h0 : 0 ≤ n) (h1 : n ≤ 1048576) : 0 ≤ reqL l n ∧ reqL l n ≤ 17592186044416 := by
  have := reqL_bd h h0 h1 l.length
  rw [List.take_length] at this
  exact this

/-! job by job -/
theorem dem_jobs {t : Tk} {n : Int} {j : Nat} (h : rightT t = true) (hgt : n < t.dead + j * t.period) (hle : j = 0 ∨ t.dead + (j - 1) * t.period ≤ n) : t.cost * j = dem1 t n := by
  have hr := rightT_t h
  unfold dem1
  rcases hle with rfl | hle
  · rw [if_neg (by simp at hgt; omega)]; simp
  · by_cases hj : j = 0
    · subst hj; rw [if_neg (by simp at hgt; omega)]; simp
    · have hj1 : (0 : Int) ≤ (j : Int) - 1 := by omega
      have h1 : 0 ≤ ((j : Int) - 1) * t.period := Int.mul_nonneg hj1 (by omega)
      rw [if_pos (by omega)]
      have h2 : (j : Int) * t.period = ((j : Int) - 1) * t.period + t.period := by rw [Int.sub_mul]; omega
      have h3 : (n - t.dead) / t.period = (j : Int) - 1 := by
        have e : n - t.dead = (n - t.dead - ((j : Int) - 1) * t.period) + t.period * ((j : Int) - 1) := by rw [Int.mul_comm t.period]; omega
        rw [e, Int.add_mul_ediv_left _ _ (by omega), Int.ediv_eq_zero_of_lt (by omega) (by omega)]
        omega
      rw [h3]
      congr 1
      omega
theorem req_jobs {t : Tk} {n : Int} {j : Nat} (h : rightT t = true) (h0 : 0 ≤ n) (hge : n ≤ j * t.period) (hlt : j = 0 ∨ ((j : Int) - 1) * t.period < n) : t.cost * j = req1 t n := by
  have hr := rightT_t h
  unfold req1
  congr 1
  symm
  rcases hlt with rfl | hlt
  · simp at hge
    rw [Int.ediv_eq_zero_of_lt (by omega) (by omega)]
    rfl
  · have h2 : (j : Int) * t.period = ((j : Int) - 1) * t.period + t.period := by rw [Int.sub_mul]; omega
    have e : n + t.period - 1 = (n - 1 - ((j : Int) - 1) * t.period) + t.period * (j : Int) := by rw [Int.mul_comm t.period]; omega
    rw [e, Int.add_mul_ediv_left _ _ (by omega), Int.ediv_eq_zero_of_lt (by omega) (by omega)]
    omega
end Go.Proofs.Ytkhbnklaglnfdaa
