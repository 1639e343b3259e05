/- Plain: fields side by side; words of several numbers. -/
import Derived.Test.YtpimflmmfnffeaaDoorFW1
namespace Go.Proofs.YtpimflmmfnffeaaDoor

structure Fl where
  at_ : Int
  size : Int

def rightF (f : Fl) : Bool := rightB f.at_ f.size
theorem rightF_t {f : Fl} (h : rightF f = true) : 1 ≤ f.size ∧ f.size ≤ 64 ∧ 0 ≤ f.at_ ∧ f.at_ + f.size ≤ 64 := of_decide_eq_true h
def apartB (f g : Fl) : Bool := !rightF f || !rightF g || decide (f.at_ + f.size ≤ g.at_ ∨ g.at_ + g.size ≤ f.at_)
def maskN (f : Fl) : Nat := (2 ^ f.size.toNat - 1) * 2 ^ f.at_.toNat
theorem maskN_lt {f : Fl} (h : rightF f = true) : maskN f < 2 ^ 64 := by
  have := rightF_t h
  exact Fld.mask_lt _ _ (by omega)
theorem mask_int {f : Fl} : mostI f.size * 2 ^ f.at_.toNat = (maskN f : Int) := by
  unfold mostI maskN
  have := Nat.two_pow_pos f.size.toNat
  rw [Int.natCast_mul, Int.natCast_sub (by omega)]; simp

theorem and_zero_iff (x y : Nat) : x &&& y = 0 ↔ ∀ j, (x.testBit j && y.testBit j) = false := by
  constructor
  · intro h j
    rw [← Nat.testBit_and, h, Nat.zero_testBit]
  · intro h
    apply Nat.eq_of_testBit_eq
    intro j
    rw [Nat.testBit_and, h j, Nat.zero_testBit]
theorem apart_mask {f g : Fl} (hf : rightF f = true) (hg : rightF g = true) : (maskN f &&& maskN g = 0) ↔ (f.at_ + f.size ≤ g.at_ ∨ g.at_ + g.size ≤ f.at_) := by
  have h1 := rightF_t hf
  have h2 := rightF_t hg
  rw [and_zero_iff]
  unfold maskN
  constructor
  · intro h
    have := h (max f.at_.toNat g.at_.toNat)
    rw [Fld.testBit_mask, Fld.testBit_mask] at this
    simp at this
    omega
  · intro h j
    rw [Fld.testBit_mask, Fld.testBit_mask]
    simp
    omega
theorem apart_t {f g : Fl} (hf : rightF f = true) (hg : rightF g = true) : apartB f g = decide (maskN f &&& maskN g = 0) := by
  unfold apartB
  rw [hf, hg]
  simp [apart_mask hf hg]
theorem apart_f1 {f g : Fl} (hf : rightF f = false) : apartB f g = true := by unfold apartB; rw [hf]; rfl
theorem apart_f2 {f g : Fl} (hg : rightF g = false) : apartB f g = true := by unfold apartB; rw [hg]; simp

/-- does a number not go in a field, behind others? -/
def bad (pre : List Fl) (f : Fl) (x : Int) : Bool := !rightF f || decide (mostI f.size < x) || pre.any (fun g => !apartB f g)
def badAt (l : List Fl) (n : List Int) (k : Nat) : Bool :=
  match l[k]?, n[k]? with
  | some f, some x => bad (l.take k) f x
  | _, _ => true
theorem badAt_eq (l : List Fl) (n : List Int) (k : Nat) (h : k < l.length) (h2 : k < n.length) : badAt l n k = bad (l.take k) l[k] n[k] := by
  unfold badAt
  rw [List.getElem?_eq_getElem h, List.getElem?_eq_getElem h2]
def joinB (l : List Fl) (n : List Int) : Nat → Bool
  | 0 => true
  | k + 1 => joinB l n k && !badAt l n k
def wordN (l : List Fl) (n : List Int) : Nat → Nat
  | 0 => 0
  | k + 1 =>
    match l[k]?, n[k]? with
    | some f, some x => Fld.putN f.at_.toNat f.size.toNat (wordN l n k) x.toNat
    | _, _ => 0
theorem wordN_succ (l : List Fl) (n : List Int) (k : Nat) (h : k < l.length) (h2 : k < n.length) : wordN l n (k + 1) = Fld.putN l[k].at_.toNat l[k].size.toNat (wordN l n k) n[k].toNat := by
  rw [wordN, List.getElem?_eq_getElem h, List.getElem?_eq_getElem h2]
def usedN (l : List Fl) : Nat → Nat
  | 0 => 0
  | k + 1 =>
    match l[k]? with
    | some f => usedN l k ||| maskN f
    | none => usedN l k
theorem usedN_succ (l : List Fl) (k : Nat) (h : k < l.length) : usedN l (k + 1) = usedN l k ||| maskN l[k] := by
  rw [usedN, List.getElem?_eq_getElem h]

theorem joinB_le {l : List Fl} {n : List Int} {m k : Nat} (h : joinB l n m = true) (hk : k ≤ m) : joinB l n k = true := by
  induction m with
  | zero => obtain rfl : k = 0 := by omega
            exact h
  | succ m ih =>
    by_cases he : k = m + 1
    · rw [he]; exact h
    · rw [joinB, Bool.and_eq_true] at h
      exact ih h.1 (by omega)
theorem joinB_at {l : List Fl} {n : List Int} {m k : Nat} (h : joinB l n m = true) (hk : k < m) : badAt l n k = false := by
  have := joinB_le h (show k + 1 ≤ m by omega)
  rw [joinB, Bool.and_eq_true] at this
  simpa using this.2
theorem bad_f {pre : List Fl} {f : Fl} {x : Int} (h : bad pre f x = false) : rightF f = true ∧ x ≤ mostI f.size ∧ ∀ g ∈ pre, apartB f g = true := by
  unfold bad at h
  simp only [Bool.or_eq_false_iff, Bool.not_eq_false', decide_eq_false_iff_not, List.any_eq_false] at h
  refine ⟨h.1.1, by omega, fun g hg => ?_⟩
  have := h.2 g hg
  simpa using this
theorem joinB_right {l : List Fl} {n : List Int} {m i : Nat} (h : joinB l n m = true) (hl : m ≤ l.length) (hn : m ≤ n.length) (hi : i < m) : rightF (l[i]'(by omega)) = true ∧ n[i]'(by omega) ≤ mostI (l[i]'(by omega)).size ∧ ∀ j (hj : j < i), apartB (l[i]'(by omega)) (l[j]'(by omega)) = true := by
  have h1 := joinB_at h hi
  rw [badAt_eq l n i (by omega) (by omega)] at h1
  obtain ⟨a, b, c⟩ := bad_f h1
  refine ⟨a, b, fun j hj => c _ ?_⟩
  rw [List.mem_take_iff_getElem]
  exact ⟨j, by omega, rfl⟩
theorem num_lt {s x : Int} (hx : x ≤ mostI s) (h0 : 0 ≤ x) : x.toNat < 2 ^ s.toNat := by
  unfold mostI at hx
  have : ((2 : Int) ^ s.toNat) = ((2 ^ s.toNat : Nat) : Int) := by simp
  omega
theorem wordN_lt {l : List Fl} {n : List Int} (h0 : ∀ x ∈ n, 0 ≤ x) : ∀ {k : Nat}, joinB l n k = true → k ≤ l.length → k ≤ n.length → wordN l n k < 2 ^ 64
  | 0, _, _, _ => by simp [wordN]
  | k + 1, h, hl, hn => by
    rw [wordN_succ l n k hl hn]
    have hr := joinB_right h hl hn (show k < k + 1 by omega)
    have h1 := rightF_t hr.1
    exact Fld.put_lt _ _ _ _ 64 (num_lt hr.2.1 (h0 _ (List.getElem_mem _))) (by omega) (wordN_lt h0 (joinB_le h (by omega)) (by omega) (by omega))
theorem usedN_lt {l : List Fl} {n : List Int} : ∀ {k : Nat}, joinB l n k = true → k ≤ l.length → k ≤ n.length → usedN l k < 2 ^ 64
  | 0, _, _, _ => by simp [usedN]
  | k + 1, h, hl, hn => by
    rw [usedN_succ l k hl]
    exact Nat.or_lt_two_pow (usedN_lt (joinB_le h (by omega)) (by omega) (by omega)) (maskN_lt (joinB_right h hl hn (show k < k + 1 by omega)).1)
theorem and_or_zero (x y z : Nat) : (x ||| y) &&& z = 0 ↔ x &&& z = 0 ∧ y &&& z = 0 := by
  rw [and_zero_iff, and_zero_iff, and_zero_iff]
  simp only [Nat.testBit_or]
  constructor
  · intro h
    exact ⟨fun j => by have := h j; revert this; cases x.testBit j <;> cases z.testBit j <;> simp, fun j => by have := h j; revert this; cases y.testBit j <;> cases z.testBit j <;> simp⟩
  · rintro ⟨h1, h2⟩ j
    have a := h1 j
    have b := h2 j
    revert a b
    cases x.testBit j <;> cases y.testBit j <;> cases z.testBit j <;> simp
/-- the bits in use, and a field that is to come -/
theorem used_and {l : List Fl} {n : List Int} (f : Fl) (hf : rightF f = true) : ∀ {k : Nat}, joinB l n k = true → k ≤ l.length → k ≤ n.length → (usedN l k &&& maskN f = 0 ↔ (l.take k).any (fun g => !apartB f g) = false)
  | 0, _, _, _ => by simp [usedN]
  | k + 1, h, hl, hn => by
    have ih := used_and f hf (joinB_le h (show k ≤ k + 1 by omega)) (by omega) (by omega)
    rw [usedN_succ l k hl, and_or_zero, ih, List.take_succ_eq_append_getElem hl, List.any_append, Bool.or_eq_false_iff]
    have hr := (joinB_right h hl hn (show k < k + 1 by omega)).1
    refine and_congr Iff.rfl ?_
    rw [Nat.and_comm]
    simp [apart_t hf hr]

/-- what is put in a field stays, whatever is put in one that is apart from it -/
theorem get_far {f g : Fl} (hf : rightF f = true) (hg : rightF g = true) (ha : apartB g f = true) (x n : Nat) (hn : n < 2 ^ g.size.toNat) :
    Fld.getN f.at_.toNat f.size.toNat (Fld.putN g.at_.toNat g.size.toNat x n) = Fld.getN f.at_.toNat f.size.toNat x := by
  have h1 := rightF_t hf
  have h2 := rightF_t hg
  rw [apart_t hg hf, decide_eq_true_eq, apart_mask hg hf] at ha
  unfold Fld.getN
  apply Nat.eq_of_testBit_eq
  intro j
  rw [Nat.testBit_mod_two_pow, Nat.testBit_mod_two_pow, Fld.div_testBit, Fld.div_testBit, Fld.testBit_put _ _ _ _ _ hn]
  by_cases hj : j < f.size.toNat
  · simp only [hj, decide_true, Bool.true_and]
    rcases ha with ha | ha
    · rw [if_neg (by omega), if_neg (by omega)]
    · rw [if_pos (by omega)]
  · simp [hj]
theorem word_get {l : List Fl} {n : List Int} (h0 : ∀ x ∈ n, 0 ≤ x) : ∀ {m : Nat}, joinB l n m = true → ∀ (hl : m ≤ l.length) (hn : m ≤ n.length) (i : Nat) (hi : i < m),
    ((Fld.getN (l[i]'(by omega)).at_.toNat (l[i]'(by omega)).size.toNat (wordN l n m) : Nat) : Int) = n[i]'(by omega)
  | 0, _, _, _, i, hi => by omega
  | m + 1, h, hl, hn, i, hi => by
    have hr := joinB_right h hl hn (show m < m + 1 by omega)
    have hx := num_lt hr.2.1 (h0 _ (List.getElem_mem _))
    rw [wordN_succ l n m hl hn]
    by_cases he : i = m
    · subst he
      rw [Fld.get_put _ _ _ _ hx]
      exact Int.toNat_of_nonneg (h0 _ (List.getElem_mem _))
    · rw [get_far (joinB_right h hl hn hi).1 hr.1 (hr.2.2 i (by omega)) _ _ hx]
      exact word_get h0 (joinB_le h (by omega)) (by omega) (by omega) i (by omega)

/-- what stands in a field; 0: a word has none such -/
def getF (f : Fl) (x : Int) : Int := if rightF f then (Fld.getN f.at_.toNat f.size.toNat x.toNat : Nat) else 0
end Go.Proofs.YtpimflmmfnffeaaDoor
