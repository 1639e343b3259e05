/- Plain: sets with sections on a reservation: what holds them up, what they need, the first stretch that is too much. -/
import Derived.Test.YtojccjdldmjfgaaTM2
import Derived.Test.YtojccjdldmjfgaaSW1
namespace Go.Proofs.Ytojccjdldmjfgaa

def secAt (l : List Tk) (s : List Int) (i : Nat) : Bool := match l[i]?, s[i]? with
  | some t, some x => decide (0 ≤ x ∧ x ≤ t.cost)
  | _, _ => false
def secOk (l : List Tk) (s : List Int) : Bool := (List.range s.length).all (secAt l s)
def rightF (l : List Tk) (s : List Int) (b p : Int) : Bool := allT l && decide (s.length ≤ l.length) && Sup.resB b p && secOk l s
theorem secAt_eq {l : List Tk} {s : List Int} {i : Nat} (h1 : i < l.length) (h2 : i < s.length) : secAt l s i = decide (0 ≤ s[i] ∧ s[i] ≤ l[i].cost) := by
  unfold secAt
  rw [List.getElem?_eq_getElem h1, List.getElem?_eq_getElem h2]
theorem secOk_no {l : List Tk} {s : List Int} {i : Nat} (h1 : i < l.length) (h2 : i < s.length) (h : ¬ (0 ≤ s[i] ∧ s[i] ≤ l[i].cost)) : secOk l s = false := by
  unfold secOk
  rw [List.all_eq_false]
  exact ⟨i, by simpa using h2, by rw [secAt_eq h1 h2, decide_eq_false h]; simp⟩
theorem secOk_yes {l : List Tk} {s : List Int} (hl : s.length ≤ l.length) (h : ∀ i (h2 : i < s.length), 0 ≤ s[i] ∧ s[i] ≤ (l[i]'(by omega)).cost) : secOk l s = true := by
  unfold secOk
  rw [List.all_eq_true]
  intro i hi
  have hi' : i < s.length := by simpa using hi
  rw [secAt_eq (by omega) hi']
  exact decide_eq_true (h i hi')
theorem secOk_at {l : List Tk} {s : List Int} (h : secOk l s = true) (hl : s.length ≤ l.length) {i : Nat} (h2 : i < s.length) : 0 ≤ s[i] ∧ s[i] ≤ (l[i]'(by omega)).cost := by
  unfold secOk at h
  rw [List.all_eq_true] at h
  have := h i (by simpa using h2)
  rw [secAt_eq (by omega) h2] at this
  exact of_decide_eq_true this
structure RightF (l : List Tk) (s : List Int) (b p : Int) : Prop where
  all : allT l = true
  len : s.length ≤ l.length
  res : 1 ≤ b ∧ b ≤ p ∧ p ≤ 1048576
  sec : secOk l s = true
theorem rightF_t {l : List Tk} {s : List Int} {b p : Int} (h : rightF l s b p = true) : RightF l s b p := by
  unfold rightF at h
  simp only [Bool.and_eq_true] at h
  exact ⟨h.1.1.1, of_decide_eq_true h.1.1.2, of_decide_eq_true h.1.2, h.2⟩
theorem rightF_mk {l : List Tk} {s : List Int} {b p : Int} (h : RightF l s b p) : rightF l s b p = true := by
  unfold rightF
  rw [h.all, decide_eq_true h.len, Sup.resB_t h.res, h.sec]
  rfl

def blkAt (l : List Tk) (s : List Int) (n : Int) (k : Nat) : Int := match l[k]?, s[k]? with
  | some t, some x => if n < t.dead then x else 0
  | _, _ => 0
/-- the longest section of the first k tasks whose deadline is longer than n -/
def blkTo (l : List Tk) (s : List Int) (n : Int) : Nat → Int
  | 0 => 0
  | k + 1 => max (blkTo l s n k) (blkAt l s n k)
theorem blkAt_eq {l : List Tk} {s : List Int} {n : Int} {k : Nat} (h1 : k < l.length) (h2 : k < s.length) : blkAt l s n k = if n < l[k].dead then s[k] else 0 := by
  unfold blkAt
  rw [List.getElem?_eq_getElem h1, List.getElem?_eq_getElem h2]
theorem blkAt_out {l : List Tk} {s : List Int} {n : Int} {k : Nat} (h : s.length ≤ k) : blkAt l s n k = 0 := by
  unfold blkAt
  rw [List.getElem?_eq_none h]
  cases l[k]? <;> rfl
theorem blkTo_ge (l : List Tk) (s : List Int) (n : Int) : ∀ k, 0 ≤ blkTo l s n k
  | 0 => by simp [blkTo]
  | k + 1 => by rw [blkTo]; have := blkTo_ge l s n k; omega
theorem blkTo_all {l : List Tk} {s : List Int} {n : Int} : ∀ {k : Nat}, s.length ≤ k → blkTo l s n k = blkTo l s n s.length
  | 0, h => by rw [show s.length = 0 by omega]
  | k + 1, h => by
    by_cases he : s.length = k + 1
    · rw [he]
    · rw [blkTo, blkAt_out (by omega), blkTo_all (show s.length ≤ k by omega)]
      have := blkTo_ge l s n s.length
      omega
theorem blkTo_le {l : List Tk} {s : List Int} (ha : allT l = true) (hs : secOk l s = true) (hl : s.length ≤ l.length) (n : Int) : ∀ k, blkTo l s n k ≤ 1048576
  | 0 => by simp [blkTo]
  | k + 1 => by
    have ih := blkTo_le ha hs hl n k
    rw [blkTo]
    by_cases hk : k < s.length
    · rw [blkAt_eq (by omega) hk]
      have h1 := secOk_at hs hl hk
      have h2 := allT_at ha (show k < l.length by omega)
      split <;> omega
    · rw [blkAt_out (by omega)]
      omega
def needV (l : List Tk) (s : List Int) (n : Int) : Int := demL l n + blkTo l s n s.length
theorem needV_bd {l : List Tk} {s : List Int} (ha : allT l = true) (hs : secOk l s = true) (hl : s.length ≤ l.length) {n : Int} (h0 : 0 ≤ n) (h1 : n ≤ 1048576) : 0 ≤ needV l s n ∧ needV l s n ≤ 8796102459392 := by
  have a := demL_all ha h0 h1
  have b := blkTo_ge l s n s.length
  have c := blkTo_le ha hs hl n s.length
  unfold needV
  omega
theorem least_bd {b p t : Int} (h : 1 ≤ b ∧ b ≤ p ∧ p ≤ 1048576) (h0 : 0 ≤ t) (h1 : t ≤ 1048576) : 0 ≤ Sup.leastI b p t ∧ Sup.leastI b p t ≤ 1099512676352 := by
  have hd := Sup.div_le_self t p h0 (by omega)
  have hm := Sup.mul_bd b (t / p - 1) (by omega) (by omega) (by omega) (by omega)
  unfold Sup.leastI
  omega
def overP (l : List Tk) (s : List Int) (b p : Int) (x : Int) : Bool := decide (Sup.leastI b p x < needV l s x)
def firstV (l : List Tk) (s : List Int) (b p : Int) (u : Nat) : Option Int := (ptsTo l (u + 1)).find? (overP l s b p)
theorem pts_in {l : List Tk} (hr : ∀ t ∈ l, rightT t = true) {u : Nat} (hu : u ≤ 1048576) : ∀ x ∈ ptsTo l (u + 1), 1 ≤ x ∧ x ≤ 1048576 := fun x hx => by
  have h2 := pts_mem.1 hx
  obtain ⟨t, ht, hp⟩ := isPt_t h2.2.2
  have h3 := rightT_t (hr t ht)
  have h4 := of_decide_eq_true hp
  omega
theorem find_some_at {p : Int → Bool} {xs : List Int} {k : Nat} (hk : k < xs.length) (h : p xs[k] = true) (hm : ∀ i (hi : i < xs.length), i < k → p xs[i] = false) : xs.find? p = some xs[k] := by
  rw [List.find?_eq_some_iff_getElem]
  refine ⟨h, k, hk, rfl, fun j hj => ?_⟩
  rw [hm j (by omega) hj]; rfl
theorem find_none_at {p : Int → Bool} {xs : List Int} (hm : ∀ i (hi : i < xs.length), p xs[i] = false) : xs.find? p = none := by
  rw [List.find?_eq_none]
  intro x hx
  obtain ⟨i, hi, rfl⟩ := List.mem_iff_getElem.1 hx
  rw [hm i hi]; simp
theorem first_in {l : List Tk} (hr : ∀ t ∈ l, rightT t = true) {s : List Int} {b p : Int} {u : Nat} (hu : u ≤ 1048576) {x : Int} (h : firstV l s b p u = some x) : 1 ≤ x ∧ x ≤ 1048576 :=
  pts_in hr hu x (List.mem_of_find?_eq_some h)
end Go.Proofs.Ytojccjdldmjfgaa
