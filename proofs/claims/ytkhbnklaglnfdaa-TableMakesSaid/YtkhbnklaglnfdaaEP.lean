/- Plain: jobs, and what the document says of them. -/
import Derived.KernelRfl
namespace Go.Proofs.Ytkhbnklaglnfdaa.Edf

structure Job where
  come : Int
  dead : Int
  cost : Int

def okJ (j : Job) : Bool := decide (0 ≤ j.come ∧ j.come < j.dead ∧ j.dead ≤ 1024 ∧ 1 ≤ j.cost ∧ j.cost ≤ 1024)
def rightJ (l : List Job) : Bool := decide (l.length ≤ 32) && l.all okJ
def endJ (l : List Job) : Int := l.foldl (fun e j => max e j.dead) 0

theorem okJ_t {j : Job} (h : okJ j = true) : 0 ≤ j.come ∧ j.come < j.dead ∧ j.dead ≤ 1024 ∧ 1 ≤ j.cost ∧ j.cost ≤ 1024 := of_decide_eq_true h
theorem okJ_f {j : Job} (h : okJ j = false) : ¬ (0 ≤ j.come ∧ j.come < j.dead ∧ j.dead ≤ 1024 ∧ 1 ≤ j.cost ∧ j.cost ≤ 1024) := of_decide_eq_false h

theorem take_all {α : Type} (p : α → Bool) (l : List α) (k : Nat) (hk : k < l.length) (h : (l.take k).all p = true) (hp : p l[k] = true) : (l.take (k + 1)).all p = true := by
  rw [List.take_succ_eq_append_getElem hk, List.all_append, h]
  simp [hp]
theorem not_all {α : Type} (p : α → Bool) (l : List α) (k : Nat) (hk : k < l.length) (hp : p l[k] = false) : l.all p = false := by
  rw [List.all_eq_false]
  exact ⟨l[k], List.getElem_mem hk, by simp [hp]⟩
theorem end_snoc (l : List Job) (k : Nat) (hk : k < l.length) : endJ (l.take (k + 1)) = max (endJ (l.take k)) l[k].dead := by
  unfold endJ
  rw [List.take_succ_eq_append_getElem hk, List.foldl_append]
  rfl

/-! The earliest deadline first, tick by tick. -/
def skipJ (j : Job) (h tick : Int) : Bool := decide (tick < j.come) || decide (j.cost ≤ h)
def betterJ (l : List Job) (j : Job) (f : Int) : Bool := decide (f < 0) || (match l[f.toNat]? with | some g => decide (j.dead < g.dead) | none => false)
def pickStep (l : List Job) (had : List Int) (tick : Int) (f : Int) (i : Nat) : Int :=
  match l[i]?, had[i]? with
  | some j, some h => if skipJ j h tick then f else if betterJ l j f then (i : Int) else f
  | _, _ => f
def pickTo (l : List Job) (had : List Int) (tick : Int) (k : Nat) : Int := (List.range k).foldl (pickStep l had tick) (-1)
def hadStep (had : List Int) (f : Int) : List Int := if 0 ≤ f then had.set f.toNat (had.getD f.toNat 0 + 1) else had
def runTo (l : List Job) : Nat → List Int × List Int
  | 0 => (List.replicate l.length 0, [])
  | k + 1 => (hadStep (runTo l k).1 (pickTo l (runTo l k).1 k l.length), (runTo l k).2 ++ [pickTo l (runTo l k).1 k l.length])

theorem pickTo_succ (l : List Job) (had : List Int) (tick : Int) (k : Nat) : pickTo l had tick (k + 1) = pickStep l had tick (pickTo l had tick k) k := by
  unfold pickTo
  rw [List.range_succ, List.foldl_append]
  rfl
theorem pick_at (l : List Job) (had : List Int) (tick f : Int) (k : Nat) (hk : k < l.length) (hh : k < had.length) :
    pickStep l had tick f k = if skipJ l[k] had[k] tick then f else if betterJ l l[k] f then (k : Int) else f := by
  unfold pickStep
  rw [List.getElem?_eq_getElem hk, List.getElem?_eq_getElem hh]
theorem pick_bd (l : List Job) (had : List Int) (tick : Int) : ∀ k, -1 ≤ pickTo l had tick k ∧ (k ≤ l.length → pickTo l had tick k < l.length) ∧ pickTo l had tick k < k
  | 0 => ⟨by simp [pickTo], fun _ => by simp [pickTo]; omega, by simp [pickTo]⟩
  | k + 1 => by
    have ih := pick_bd l had tick k
    rw [pickTo_succ]
    unfold pickStep
    split
    · split
      · exact ⟨ih.1, fun h => ih.2.1 (by omega), by omega⟩
      · split
        · exact ⟨by omega, fun h => by omega, by omega⟩
        · exact ⟨ih.1, fun h => ih.2.1 (by omega), by omega⟩
    · exact ⟨ih.1, fun h => ih.2.1 (by omega), by omega⟩
theorem had_len (had : List Int) (f : Int) : (hadStep had f).length = had.length := by
  unfold hadStep
  split <;> simp
theorem run_len (l : List Job) : ∀ k, (runTo l k).1.length = l.length ∧ (runTo l k).2.length = k
  | 0 => by simp [runTo]
  | k + 1 => by
    have ih := run_len l k
    simp [runTo, had_len, ih]
theorem had_bd (l : List Job) : ∀ k, ∀ x ∈ (runTo l k).1, 0 ≤ x ∧ x ≤ k
  | 0 => by
    intro x hx
    simp [runTo] at hx
    omega
  | k + 1 => by
    intro x hx
    have ih := had_bd l k
    simp only [runTo] at hx
    unfold hadStep at hx
    split at hx
    · rcases List.mem_or_eq_of_mem_set hx with h | h
      · have := ih x h; omega
      · have : ∀ i, 0 ≤ (runTo l k).1.getD i 0 ∧ (runTo l k).1.getD i 0 ≤ k := fun i => by
          rw [List.getD_eq_getElem?_getD]
          cases hg : (runTo l k).1[i]? with
          | none => simp
          | some y => exact ih y (List.mem_of_getElem? hg)
        have := this (pickTo l (runTo l k).1 k l.length).toNat
        omega
    · have := ih x hx; omega

/-! The reference: jobs by deadline, each in the first free ticks. -/
def deadAt (l : List Job) (i : Int) : Int := match l[i.toNat]? with | some j => j.dead | none => 0
def posDown (l : List Job) (out : List Int) (d : Int) : Nat → Nat
  | 0 => 0
  | k + 1 => if d < deadAt l (out.getD k 0) then posDown l out d k else k + 1
def insAt (out : List Int) (k : Nat) (x : Int) : List Int := out.take k ++ [x] ++ out.drop k
def byDeadTo (l : List Job) : Nat → List Int
  | 0 => []
  | i + 1 => insAt (byDeadTo l i) (posDown l (byDeadTo l i) (deadAt l i) (byDeadTo l i).length) i

theorem pos_le (l : List Job) (out : List Int) (d : Int) : ∀ k, posDown l out d k ≤ k
  | 0 => Nat.le_refl _
  | k + 1 => by
    unfold posDown
    split
    · exact Nat.le_succ_of_le (pos_le l out d k)
    · exact Nat.le_refl _
theorem by_len (l : List Job) : ∀ i, (byDeadTo l i).length = i
  | 0 => rfl
  | i + 1 => by
    have h := by_len l i
    have h2 := pos_le l (byDeadTo l i) (deadAt l i) (byDeadTo l i).length
    simp only [byDeadTo, insAt, List.length_append, List.length_take, List.length_drop, List.length_cons, List.length_nil]
    omega
theorem by_bd (l : List Job) : ∀ i, ∀ x ∈ byDeadTo l i, 0 ≤ x ∧ x < i
  | 0 => by intro x hx; simp [byDeadTo] at hx
  | i + 1 => by
    intro x hx
    have ih := by_bd l i
    simp only [byDeadTo, insAt, List.mem_append, List.mem_singleton] at hx
    rcases hx with (h | h) | h
    · have := ih x (List.mem_of_mem_take h); omega
    · omega
    · have := ih x (List.mem_of_mem_drop h); omega

def fillFrom (T : Nat) (id : Int) : Nat → List Int → Nat → Int → List Int
  | 0, out, _, _ => out
  | f + 1, out, now, left => if 0 < left then (if out.getD now 0 < 0 then fillFrom T id f (out.set now id) (now + 1) (left - 1) else fillFrom T id f out (now + 1) left) else out
def fillJob (l : List Job) (T : Nat) (out : List Int) (i : Int) : List Int :=
  match l[i.toNat]? with
  | some j => fillFrom T i (T - j.come.toNat) out j.come.toNat j.cost
  | none => out
def fillAll (l : List Job) (T : Nat) (order : List Int) : Nat → List Int
  | 0 => List.replicate T (-1)
  | k + 1 => fillJob l T (fillAll l T order k) (order.getD k 0)
theorem fillFrom_len (T : Nat) (id : Int) : ∀ f out now left, (fillFrom T id f out now left).length = out.length
  | 0, out, _, _ => rfl
  | f + 1, out, now, left => by
    unfold fillFrom
    split
    · split
      · rw [fillFrom_len T id f]; simp
      · exact fillFrom_len T id f _ _ _
    · rfl
theorem fillJob_len (l : List Job) (T : Nat) (out : List Int) (i : Int) : (fillJob l T out i).length = out.length := by
  unfold fillJob
  split
  · exact fillFrom_len _ _ _ _ _ _
  · rfl
theorem fillAll_len (l : List Job) (T : Nat) (order : List Int) : ∀ k, (fillAll l T order k).length = T
  | 0 => by simp [fillAll]
  | k + 1 => by rw [fillAll, fillJob_len, fillAll_len l T order k]
end Go.Proofs.Ytkhbnklaglnfdaa.Edf
