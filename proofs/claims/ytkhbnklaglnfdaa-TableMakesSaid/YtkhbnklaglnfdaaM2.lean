/- Plain: the making of a table, tick by tick, as the program does it. -/
import Derived.Test.YtkhbnklaglnfdaaM1
namespace Go.Proofs.Ytkhbnklaglnfdaa

def pickM (L D : List Int) (i : Nat) (f : Int) : Int := if 0 < tAt L i ∧ (f < 0 ∨ tAt D i < tAt D f.toNat) then (i : Int) else f
def stepM (t : Tk) (tick i : Nat) (L D : List Int) (f : Int) : Option (List Int × List Int × Int) :=
  if 0 < tAt L i ∧ tAt D i ≤ tick then none
  else if (tick : Int) % t.period = 0 then some (L.set i t.cost, D.set i (tick + t.dead), pickM (L.set i t.cost) (D.set i (tick + t.dead)) i f)
  else some (L, D, pickM L D i f)
def innM (l : List Tk) (tick : Nat) (L D : List Int) : Nat → Option (List Int × List Int × Int)
  | 0 => some (L, D, -1)
  | k + 1 => match innM l tick L D k with
    | none => none
    | some (L', D', f) => stepM (l.getD k ⟨0, 0, 0⟩) tick k L' D' f
def lessM (L : List Int) (f : Int) : List Int := if 0 ≤ f then L.set f.toNat (tAt L f.toNat - 1) else L
def runM (l : List Tk) : Nat → Option (List Int × List Int × List Int)
  | 0 => some (List.replicate l.length 0, List.replicate l.length 0, [])
  | n + 1 => match runM l n with
    | none => none
    | some (L, D, T) => match innM l n L D l.length with
      | none => none
      | some (L', D', f) => some (lessM L' f, D', T ++ [f])
def hypM (l : List Tk) (most : Nat) : Nat → Option Nat
  | 0 => some 1
  | k + 1 => match hypM l most k with
    | none => none
    | some m => if most < m * ((l.getD k ⟨0, 0, 0⟩).period.toNat / Nat.gcd m (l.getD k ⟨0, 0, 0⟩).period.toNat) then none else some (m * ((l.getD k ⟨0, 0, 0⟩).period.toNat / Nat.gcd m (l.getD k ⟨0, 0, 0⟩).period.toNat))
def lateM (L : List Int) : Bool := L.any (fun x => decide (0 < x))
/-- the table, none: it would be too long, or a job late -/
def makeM (l : List Tk) (most : Nat) : Option (List Int) :=
  match hypM l most l.length with
  | none => none
  | some r => match runM l r with
    | none => none
    | some (L, _, T) => if lateM L = true then none else some T

theorem getD_tk {l : List Tk} {k : Nat} (h : k < l.length) : l.getD k ⟨0, 0, 0⟩ = l[k] := by rw [List.getD_eq_getElem?_getD, List.getElem?_eq_getElem h]; rfl
theorem inn_none {l : List Tk} {tick : Nat} {L D : List Int} {k m : Nat} (h : innM l tick L D k = none) (hm : k ≤ m) : innM l tick L D m = none := by
  obtain ⟨j, rfl⟩ := Nat.exists_eq_add_of_le hm
  clear hm
  induction j with
  | zero => exact h
  | succ j ih => rw [show k + (j + 1) = (k + j) + 1 by omega, innM, ih]
theorem run_none {l : List Tk} {k m : Nat} (h : runM l k = none) (hm : k ≤ m) : runM l m = none := by
  obtain ⟨j, rfl⟩ := Nat.exists_eq_add_of_le hm
  clear hm
  induction j with
  | zero => exact h
  | succ j ih => rw [show k + (j + 1) = (k + j) + 1 by omega, runM, ih]
theorem hyp_none {l : List Tk} {most k m : Nat} (h : hypM l most k = none) (hm : k ≤ m) : hypM l most m = none := by
  obtain ⟨j, rfl⟩ := Nat.exists_eq_add_of_le hm
  clear hm
  induction j with
  | zero => exact h
  | succ j ih => rw [show k + (j + 1) = (k + j) + 1 by omega, hypM, ih]
/-- what a tick's search keeps -/
structure OkM (n k : Nat) (L D : List Int) (f : Int) : Prop where
  len : L.length = n
  len2 : D.length = n
  lo : -1 ≤ f
  hi : f < k
  bd : ∀ x ∈ L, 0 ≤ x ∧ x ≤ 1048576
  has : 0 ≤ f → 0 < tAt L f.toNat
theorem tAt_set {L : List Int} {i j : Nat} {x : Int} (hi : i < L.length) : tAt (L.set i x) j = if i = j then x else tAt L j := by
  unfold tAt
  rw [List.getD_eq_getElem?_getD, List.getD_eq_getElem?_getD, List.getElem?_set]
  by_cases h : i = j
  · subst h
    rw [if_pos rfl, if_pos hi, if_pos rfl]
    rfl
  · rw [if_neg h, if_neg h]
theorem bd_set {L : List Int} {i : Nat} {x : Int} (h : ∀ y ∈ L, 0 ≤ y ∧ y ≤ 1048576) (hx : 0 ≤ x ∧ x ≤ 1048576) : ∀ y ∈ L.set i x, 0 ≤ y ∧ y ≤ 1048576 := fun y hy => by
  rcases List.mem_or_eq_of_mem_set hy with h1 | h1
  · exact h y h1
  · rw [h1]; exact hx
theorem pick_ok {n k : Nat} {L D : List Int} {f : Int} (h1 : L.length = n) (h2 : D.length = n) (h3 : -1 ≤ f) (h4 : f < k) (h5 : ∀ x ∈ L, 0 ≤ x ∧ x ≤ 1048576) (h6 : 0 ≤ f → 0 < tAt L f.toNat) : OkM n (k + 1) L D (pickM L D k f) := by
  unfold pickM
  by_cases hc : 0 < tAt L k ∧ (f < 0 ∨ tAt D k < tAt D f.toNat)
  · rw [if_pos hc]
    exact ⟨h1, h2, by omega, by omega, h5, fun _ => by rw [Int.toNat_natCast]; exact hc.1⟩
  · rw [if_neg hc]
    exact ⟨h1, h2, h3, by omega, h5, h6⟩
theorem step_ok {n k tick : Nat} {t : Tk} {L D : List Int} {f : Int} {L' D' : List Int} {f' : Int} (ht : rightT t = true) (hk : k < n) (h : OkM n k L D f) (hs : stepM t tick k L D f = some (L', D', f')) : OkM n (k + 1) L' D' f' := by
  have hr := rightT_t ht
  unfold stepM at hs
  by_cases h1 : 0 < tAt L k ∧ tAt D k ≤ tick
  · rw [if_pos h1] at hs; cases hs
  · rw [if_neg h1] at hs
    by_cases h2 : (tick : Int) % t.period = 0
    · rw [if_pos h2] at hs
      injection hs with hs
      injection hs with e1 e2
      injection e2 with e2 e3
      subst e1 e2 e3
      refine pick_ok (by rw [List.length_set]; exact h.len) (by rw [List.length_set]; exact h.len2) h.lo h.hi (bd_set h.bd ⟨by omega, by omega⟩) (fun hf => ?_)
      rw [tAt_set (by rw [h.len]; exact hk)]
      have := h.hi
      rw [if_neg (by omega)]
      exact h.has hf
    · rw [if_neg h2] at hs
      injection hs with hs
      injection hs with e1 e2
      injection e2 with e2 e3
      subst e1 e2 e3
      exact pick_ok h.len h.len2 h.lo h.hi h.bd h.has
theorem less_ok {n : Nat} {L D : List Int} {f : Int} (h : OkM n n L D f) : (lessM L f).length = n ∧ ∀ x ∈ lessM L f, 0 ≤ x ∧ x ≤ 1048576 := by
  unfold lessM
  by_cases hf : 0 ≤ f
  · rw [if_pos hf]
    have h1 := h.has hf
    have h2 : f.toNat < L.length := by rw [h.len]; have := h.hi; omega
    have h3 := h.bd L[f.toNat] (List.getElem_mem h2)
    rw [tAt_eq h2] at h1 ⊢
    exact ⟨by rw [List.length_set]; exact h.len, bd_set h.bd ⟨by omega, by omega⟩⟩
  · rw [if_neg hf]
    exact ⟨h.len, h.bd⟩
theorem mul_gcd_le {m p most : Nat} (h1 : m ≤ most) (hp : p ≤ 1048576) : m * (p / Nat.gcd m p) ≤ most * 1048576 := Nat.mul_le_mul h1 (Nat.le_trans (Nat.div_le_self _ _) hp)
theorem hyp_pos {l : List Tk} {most : Nat} (hl : ∀ t ∈ l, rightT t = true) (h1 : 1 ≤ most) : ∀ {k m : Nat}, k ≤ l.length → hypM l most k = some m → 1 ≤ m ∧ m ≤ most
  | 0, m, _, h => by injection h with h; omega
  | k + 1, m, hk, h => by
    rw [hypM, getD_tk (by omega)] at h
    have hr := rightT_t (hl _ (List.getElem_mem (show k < l.length by omega)))
    cases hm : hypM l most k with
    | none => rw [hm] at h; cases h
    | some j =>
      rw [hm] at h
      simp only at h
      have ih := hyp_pos hl h1 (show k ≤ l.length by omega) hm
      by_cases hc : most < j * (l[k].period.toNat / Nat.gcd j l[k].period.toNat)
      · rw [if_pos hc] at h; cases h
      · rw [if_neg hc] at h
        injection h with h
        have hp : 1 ≤ l[k].period.toNat := by omega
        have hg : 1 ≤ l[k].period.toNat / Nat.gcd j l[k].period.toNat := Nat.div_pos (Nat.gcd_le_right _ hp) (Nat.gcd_pos_of_pos_left _ ih.1)
        have := Nat.mul_le_mul ih.1 hg
        omega
end Go.Proofs.Ytkhbnklaglnfdaa
