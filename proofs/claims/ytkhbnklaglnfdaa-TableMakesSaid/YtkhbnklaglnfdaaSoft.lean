/- A region that draws its order, with calls that make memory, new variables and what is first stored into them: walked once, in the order of the text; the new variables lie in blocks of any number. -/
import Derived.Test.YtkhbnklaglnfdaaAft
import Derived.Test.YtkhbnklaglnfdaaBlk
import Derived.StillTail
namespace Go.Proofs.Ytkhbnklaglnfdaa
open Go.RowKit

/-- a new variable of the region: its type, how its block's number reads in its slot, what it holds first, and behind the store -/
structure Mk where
  t : TypeId
  val : Nat → Value
  c0 : Array Value
  c1 : Array Value
inductive Kd where
  | q
  | m (d : Nat)
  | s (d : Nat)
def kd (made : List Nat) (o : Oper) : Kd :=
  match o.op with
  | .alloc _ => match o.dst with
    | some d => if made.contains d then .m d else .q
    | none => .q
  | .store _ (.tmp d) _ => if made.contains d then .s d else .q
  | _ => .q
def isCall (o : Oper) : Bool := match o.op with
  | .call _ => true
  | _ => false
/-- operations that never enter a function -/
def plain (o : Oper) : Bool := match o.op with
  | .move _ | .assign _ | .pick _ _ _ | .build _ _ | .load _ _ | .binOp _ _ _ _ _ | .unOp _ _ _ | .convert _ _ _ | .slice _ _ _ _ _ | .fieldAddr _ _ _ | .field _ _ _ | .indexAddr _ _ _ | .index _ _ _ | .extract _ _ | .nilCheck _ => true
  | _ => false

section
variable {P : Program} {W : World}

/-- what is asked of a call (or of an operation that yields a value at once): what was there stays -/
def CUp (P : Program) (w : World) (v : Value) : Result Next → Prop
  | .ok (.enter f args) w' => w' = w ∧ Calls P f args w fun e w'' => e = .returned v ∧ Below w.heap.size w w''
  | .ok (.value u) w' => w' = w ∧ u = v
  | _ => False
def CallOk (P : Program) (W : World) (o : Oper) (a : Act) (v : Value) : Prop := ∀ n : Aft W, CUp P n.w v ((execOp a.eval o).run P n.w)
def QOk (P : Program) (W : World) (o : Oper) (a : Act) (v : Value) : Prop :=
  if isCall o then CallOk P W o a v else ∀ w, (∃ n : Aft W, w = n.w) → o.quietAt P a (fun w => ∃ n : Aft W, w = n.w) w v
def MOk (P : Program) (W : World) (o : Oper) (a : Act) (M : Mk) : Prop := ∀ n : Aft W, (execOp a.eval o).run P n.w = .ok (.value (M.val n.w.heap.size)) (n.w.alloc (.cells M.c0 M.t))
def SOk (P : Program) (o : Oper) (a : Act) (d : Nat) (M : Mk) : Prop :=
  ∀ (g : Nat) (w : World), Blk w g M.t M.c0 → ∃ w', (execOp (a.put (some d) (M.val g)).eval o).run P w = .ok .skip w' ∧ Blk w' g M.t M.c1 ∧ w.grownBy w' (some g)

/-- the walk, in the order of the text -/
def wpSh (P : Program) (ops : Array Oper) (W : World) (made : List Nat) (D : Nat → Mk) (Q : Act → Prop) : List Oper → Act → Prop
  | [], a => Q a
  | o :: rest, a =>
    match kd made o with
    | .q => if Region.wanted o (yielded ops a.tmps) = true then ∃ v, QOk P W o a v ∧ wpSh P ops W made D Q rest (a.put o.dst v) else wpSh P ops W made D Q rest (a.put o.dst undef)
    | .m d => MOk P W o a (D d) ∧ wpSh P ops W made D Q rest (a.put o.dst undef)
    | .s d => SOk P o a d (D d) ∧ wpSh P ops W made D Q rest (a.put o.dst undef)

/-- what the walk shows of one operation -/
def OkAt (P : Program) (ops : Array Oper) (W : World) (made : List Nat) (D : Nat → Mk) (o : Oper) (a : Act) (v : Value) : Prop :=
  match kd made o with
  | .q => (Region.wanted o (yielded ops a.tmps) = true ∧ QOk P W o a v) ∨ (Region.wanted o (yielded ops a.tmps) = false ∧ v = undef)
  | .m d => MOk P W o a (D d)
  | .s d => SOk P o a d (D d)

def frs (a : Act) (l : List Oper) (vals : Nat → Value) : Nat → Act
  | 0 => a
  | j + 1 => match l[j]? with
    | some o => (frs a l vals j).put o.dst (vals j)
    | none => frs a l vals j
theorem frs_cons (a : Act) (o : Oper) (l : List Oper) (vals : Nat → Value) : ∀ j, frs a (o :: l) vals (j + 1) = frs (a.put o.dst (vals 0)) l (fun i => vals (i + 1)) j
  | 0 => rfl
  | j + 1 => by
    rw [frs]
    have : (o :: l)[j + 1]? = l[j]? := rfl
    rw [this, frs_cons a o l vals j]
    rfl

theorem sh_ext {ops : Array Oper} {made : List Nat} {D : Nat → Mk} {Q : Act → Prop} : ∀ (l : List Oper) (a : Act), wpSh P ops W made D Q l a →
    ∃ vals : Nat → Value, (∀ j o, l[j]? = some o → OkAt P ops W made D o (frs a l vals j) (vals j)) ∧ Q (frs a l vals l.length)
  | [], a, h => ⟨fun _ => undef, fun j o hj => by simp at hj, h⟩
  | o :: l, a, h => by
    have key : ∀ v, OkAt P ops W made D o a v → wpSh P ops W made D Q l (a.put o.dst v) → ∃ vals : Nat → Value, (∀ j o', (o :: l)[j]? = some o' → OkAt P ops W made D o' (frs a (o :: l) vals j) (vals j)) ∧ Q (frs a (o :: l) vals (o :: l).length) := by
      intro v hv hr
      obtain ⟨vs, h1, h2⟩ := sh_ext l _ hr
      refine ⟨fun i => match i with | 0 => v | i + 1 => vs i, fun j o' hj => ?_, ?_⟩
      · cases j with
        | zero =>
          simp at hj
          subst hj
          exact hv
        | succ j =>
          rw [frs_cons]
          exact h1 j o' hj
      · rw [List.length_cons, frs_cons]
        exact h2
    unfold wpSh at h
    cases hk : kd made o with
    | q =>
      simp only [hk] at h
      by_cases hw : Region.wanted o (yielded ops a.tmps) = true
      · rw [if_pos hw] at h
        obtain ⟨v, hv, hr⟩ := h
        exact key v (by unfold OkAt; rw [hk]; exact .inl ⟨hw, hv⟩) hr
      · rw [if_neg hw] at h
        exact key undef (by unfold OkAt; rw [hk]; exact .inr ⟨by simpa using hw, rfl⟩) h
    | m d =>
      simp only [hk] at h
      exact key undef (by unfold OkAt; rw [hk]; exact h.1) h.2
    | s d =>
      simp only [hk] at h
      exact key undef (by unfold OkAt; rw [hk]; exact h.1) h.2

/-! frames that agree -/
theorem eval_agree {a b : Act} {k : Nat} (h : a.tmps[k]? = b.tmps[k]?) : a.eval (.tmp k) = b.eval (.tmp k) := by
  simp [Act.eval, Array.getD_eq_getD_getElem?, h]
theorem exec_agree {a b : Act} {ops : Array Oper} (o : Oper) (hs : ∀ cs b, o.op ≠ .select cs b) (h : ∀ k ∈ o.looksAt ops, a.tmps[k]? = b.tmps[k]?) : execOp a.eval o = execOp b.eval o := by
  refine execOp_congr o hs fun x hx => ?_
  cases x with
  | tmp k => exact eval_agree (h k (by unfold Oper.looksAt; exact List.mem_append_left _ (List.mem_filterMap.2 ⟨.tmp k, by simpa using hx, rfl⟩)))
  | _ => rfl
theorem want_agree {a b : Act} {ops : Array Oper} (o : Oper) (h : ∀ k ∈ o.looksAt ops, a.tmps[k]? = b.tmps[k]?) : Region.wanted o (yielded ops a.tmps) = Region.wanted o (yielded ops b.tmps) := by
  unfold Region.wanted
  cases hg : o.guard with
  | none => rfl
  | some gb =>
    obtain ⟨g, bb⟩ := gb
    have : yielded ops a.tmps g = yielded ops b.tmps g := by
      unfold yielded
      cases hd : (ops[g]?).bind (·.dst) with
      | none => rfl
      | some k =>
        have hk : k ∈ o.looksAt ops := by unfold Oper.looksAt; simp [hg, hd]
        simp only [Option.bind_some, h k hk]
    simp only [this]

theorem put_get (a : Act) (dst : Option Nat) (v : Value) (k : Nat) (h : dst ≠ some k) : (a.put dst v).tmps[k]? = a.tmps[k]? := by
  cases dst with
  | none => rfl
  | some d =>
    have : d ≠ k := fun e => h (by rw [e])
    simp [Act.put, Array.getElem?_setIfInBounds_ne this]
theorem put_size (a : Act) (dst : Option Nat) (v : Value) : (a.put dst v).tmps.size = a.tmps.size := by cases dst <;> simp [Act.put]
theorem put_defs (a : Act) (dst : Option Nat) (v : Value) : (a.put dst v).defers = a.defers := by cases dst <;> rfl
theorem put_at (a : Act) (k : Nat) (v : Value) (h : k < a.tmps.size) : (a.put (some k) v).tmps[k]? = some v := by simp [Act.put, h]

theorem frs_size (a : Act) (l : List Oper) (vals : Nat → Value) : ∀ n, (frs a l vals n).tmps.size = a.tmps.size ∧ (frs a l vals n).defers = a.defers
  | 0 => ⟨rfl, rfl⟩
  | n + 1 => by
    unfold frs
    split
    · exact ⟨by rw [put_size]; exact (frs_size a l vals n).1, by rw [put_defs]; exact (frs_size a l vals n).2⟩
    · exact frs_size a l vals n
theorem frs_old (a : Act) (l : List Oper) (vals : Nat → Value) (k : Nat) : ∀ n, (∀ j o, j < n → l[j]? = some o → o.dst ≠ some k) → (frs a l vals n).tmps[k]? = a.tmps[k]?
  | 0, _ => rfl
  | n + 1, h => by
    unfold frs
    split
    · rename_i o ho
      rw [put_get _ _ _ _ (h n o (by omega) ho)]
      exact frs_old a l vals k n fun j o' hj ho' => h j o' (by omega) ho'
    · exact frs_old a l vals k n fun j o' hj ho' => h j o' (by omega) ho'
theorem frs_new (a : Act) (l : List Oper) (vals : Nat → Value) (k i : Nat) (oi : Oper) (hi : l[i]? = some oi) (hd : oi.dst = some k) (hk : k < a.tmps.size)
    (hdist : ∀ j o, l[j]? = some o → j ≠ i → o.dst ≠ some k) : ∀ n, i < n → (frs a l vals n).tmps[k]? = some (vals i)
  | 0, h => by omega
  | n + 1, h => by
    unfold frs
    by_cases hn : n = i
    · subst hn
      simp only [hi, hd]
      exact put_at _ _ _ (by rw [(frs_size a l vals n).1]; exact hk)
    · split
      · rename_i o ho
        rw [put_get _ _ _ _ (hdist n o ho hn)]
        exact frs_new a l vals k i oi hi hd hk hdist n (by omega)
      · exact frs_new a l vals k i oi hi hd hk hdist n (by omega)
end
end Go.Proofs.Ytkhbnklaglnfdaa
