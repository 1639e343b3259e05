/- A region that draws its order, of which the operations that turn the world stand in a row, each waiting for the one before: the others are walked in the order of the text, then that row from any world that the reads may leave. -/
import Derived.Test.YtkhbnklaglnfdaaSoft3
namespace Go.Proofs.Ytkhbnklaglnfdaa
open Go.RowKit

/-- only an end without stop counts -/
def onlyN (Q : Exit → Act → World → Prop) : Exit → Act → World → Prop
  | .normal, a, w => Q .normal a w
  | _, _, _ => False
structure AnyW where
  w : World
instance instAnyW : Nonempty AnyW := ⟨⟨default⟩⟩
/-- operations that may come anywhere: they look at no memory -/
def freeOp (o : Oper) : Bool :=
  match o.op with
  | .move _ | .assign _ | .pick _ _ _ | .build _ _ | .binOp _ _ _ _ _ | .unOp _ _ _ | .convert _ _ _ | .slice _ _ _ _ _ | .fieldAddr _ _ _ | .field _ _ _ | .indexAddr _ _ _ | .index _ _ _ | .extract _ _ | .nilCheck _ => true
  | _ => false
theorem free_plain {o : Oper} (h : freeOp o = true) : plain o = true := by
  obtain ⟨dst, op, ty, pos, after, guard⟩ := o
  cases op <;> simp_all [freeOp, plain]

section
variable {P : Program} {ops : Array Oper} {T : List Nat} {C : World → Prop}

/-- what is asked of an operation outside the row -/
def COk (P : Program) (C : World → Prop) (o : Oper) (a : Act) (v : Value) : Prop :=
  if freeOp o then ∀ w, (∃ n : AnyW, w = n.w) → o.quietAt P a (fun w => ∃ n : AnyW, w = n.w) w v else ∀ w, C w → o.quietAt P a C w v
def wpCh (P : Program) (ops : Array Oper) (T : List Nat) (C : World → Prop) (Q : Act → Prop) : Nat → List Oper → Act → Prop
  | _, [], a => Q a
  | i, o :: rest, a =>
    if T.contains i then wpCh P ops T C Q (i + 1) rest (a.put o.dst undef)
    else if Region.wanted o (yielded ops a.tmps) = true then ∃ v, COk P C o a v ∧ wpCh P ops T C Q (i + 1) rest (a.put o.dst v)
    else wpCh P ops T C Q (i + 1) rest (a.put o.dst undef)
def CAt (P : Program) (ops : Array Oper) (T : List Nat) (C : World → Prop) (i : Nat) (o : Oper) (a : Act) (v : Value) : Prop :=
  (T.contains i = true) ∨ (Region.wanted o (yielded ops a.tmps) = true ∧ COk P C o a v) ∨ (Region.wanted o (yielded ops a.tmps) = false ∧ v = undef)
theorem ch_ext {Q : Act → Prop} : ∀ (l : List Oper) (i : Nat) (a : Act), wpCh P ops T C Q i l a →
    ∃ vals : Nat → Value, (∀ j o, l[j]? = some o → CAt P ops T C (i + j) o (frs a l vals j) (vals j)) ∧ Q (frs a l vals l.length)
  | [], i, a, h => ⟨fun _ => undef, fun j o hj => by simp at hj, h⟩
  | o :: l, i, a, h => by
    have key : ∀ v, CAt P ops T C i o a v → wpCh P ops T C Q (i + 1) l (a.put o.dst v) → ∃ vals : Nat → Value, (∀ j o', (o :: l)[j]? = some o' → CAt P ops T C (i + j) o' (frs a (o :: l) vals j) (vals j)) ∧ Q (frs a (o :: l) vals (o :: l).length) := by
      intro v hv hr
      obtain ⟨vs, h1, h2⟩ := ch_ext l (i + 1) _ hr
      refine ⟨fun i => match i with | 0 => v | i + 1 => vs i, fun j o' hj => ?_, ?_⟩
      · cases j with
        | zero =>
          simp at hj
          subst hj
          exact hv
        | succ j =>
          rw [frs_cons, show i + (j + 1) = i + 1 + j by omega]
          exact h1 j o' hj
      · rw [List.length_cons, frs_cons]
        exact h2
    unfold wpCh at h
    by_cases ht : T.contains i = true
    · rw [if_pos ht] at h
      exact key undef (.inl ht) h
    · rw [if_neg ht] at h
      by_cases hw : Region.wanted o (yielded ops a.tmps) = true
      · rw [if_pos hw] at h
        obtain ⟨v, hv, hr⟩ := h
        exact key v (.inr (.inl ⟨hw, hv⟩)) hr
      · rw [if_neg hw] at h
        exact key undef (.inr (.inr ⟨by simpa using hw, rfl⟩)) h

def tdst (ops : Array Oper) (T : List Nat) : List Nat := T.filterMap fun t => dstOf ops t
/-- what is asked of the region's text -/
def chainB (T : List Nat) (N : Nat) (ops : Array Oper) : Bool :=
  Region.noSelect ops &&
  ((List.range ops.size).all fun i => (List.range ops.size).all fun j => i == j || (dstOf ops i).isNone || dstOf ops i != dstOf ops j) &&
  ((List.range ops.size).all fun i => backB ops i) &&
  ((List.range ops.size).all fun i => lookB ops i) &&
  ((List.range ops.size).all fun i => match ops[i]? with
    | some o => if T.contains i then o.guard.isNone && (o.looksAt ops).all fun k => (List.range ops.size).all fun j => dstOf ops j != some k || (decide (j < i) && Region.waitsFor .any ops i j)
      else ((o.looksAt ops).all fun k => (List.range ops.size).all fun j => dstOf ops j != some k || !T.contains j) && (freeOp o || Region.waitsFor .any ops (T.headD 0) i)
    | none => true) &&
  ((List.range (T.length - 1)).all fun k => Region.waitsFor .any ops (T.getD (k + 1) 0) (T.getD k 0)) &&
  (T.all fun t => decide (t < ops.size)) && !T.isEmpty &&
  ((List.range ops.size).all fun j => match dstOf ops j with | some s => decide (s < N) | none => true)
structure ChainOk (T : List Nat) (N : Nat) (ops : Array Oper) : Prop where
  sel : ∀ (j : Nat) (o : Oper) cs b, ops[j]? = some o → o.op ≠ .select cs b
  dist : ∀ (i j : Nat) (oi oj : Oper) (k : Nat), ops[i]? = some oi → ops[j]? = some oj → oi.dst = some k → oj.dst = some k → i = j
  back : ∀ (i : Nat) (o : Oper), ops[i]? = some o → ∀ e ∈ o.after, Region.binds .any e = true → e.on < i
  look : ∀ (i j : Nat) (oi oj : Oper) (k : Nat), ops[i]? = some oi → ops[j]? = some oj → k ∈ oi.looksAt ops → oj.dst = some k → (j < i ∧ Region.waitsFor .any ops i j = true) ∨ (i < j ∧ Region.waitsFor .any ops j i = true)
  tg : ∀ (i : Nat) (o : Oper), ops[i]? = some o → i ∈ T → o.guard = none
  tl : ∀ (i j : Nat) (o oj : Oper) (k : Nat), ops[i]? = some o → i ∈ T → k ∈ o.looksAt ops → ops[j]? = some oj → oj.dst = some k → Region.waitsFor .any ops i j = true
  nl : ∀ (i j : Nat) (o oj : Oper) (k : Nat), ops[i]? = some o → i ∉ T → k ∈ o.looksAt ops → ops[j]? = some oj → oj.dst = some k → j ∉ T
  fr : ∀ (i : Nat) (o : Oper), ops[i]? = some o → i ∉ T → freeOp o = true ∨ Region.waitsFor .any ops (T.headD 0) i = true
  row : ∀ k, k + 1 < T.length → Region.waitsFor .any ops (T.getD (k + 1) 0) (T.getD k 0) = true
  tin : ∀ t ∈ T, t < ops.size
  ne : T ≠ []
  size : ∀ (j : Nat) (o : Oper) (s : Nat), ops[j]? = some o → o.dst = some s → s < N
theorem chain_spec {N : Nat} (h : chainB T N ops = true) : ChainOk T N ops := by
  simp only [chainB, Bool.and_eq_true, List.all_eq_true, List.mem_range] at h
  obtain ⟨⟨⟨⟨⟨⟨⟨⟨h0, h1⟩, h2⟩, h3⟩, h4⟩, h5⟩, h6⟩, h7⟩, h8⟩ := h
  refine ⟨Region.noSelect_spec h0, ?_, ?_, ?_, ?_, ?_, ?_, ?_, ?_, ?_, ?_, ?_⟩
  · intro i j oi oj k hi hj di dj
    have := h1 i (lt_of_some hi) j (lt_of_some hj)
    simp [dstOf, hi, hj, di, dj] at this
    exact this
  · intro i o hi e he hb
    have := h2 i (lt_of_some hi)
    unfold backB at this
    rw [hi] at this
    have := Array.all_eq_true'.1 this e he
    simp [hb] at this
    exact this
  · intro i j oi oj k hi hj hk dj
    have := h3 i (lt_of_some hi)
    unfold lookB at this
    rw [hi] at this
    have := List.all_eq_true.1 (List.all_eq_true.1 this k hk) j (List.mem_range.2 (lt_of_some hj))
    simp [dstOf, hj, dj] at this
    exact this
  · intro i o hi ht
    have := h4 i (lt_of_some hi)
    rw [hi] at this
    simp only [List.contains_eq_mem, decide_eq_true ht, if_true, Bool.and_eq_true, Option.isNone_iff_eq_none] at this
    exact this.1
  · intro i j o oj k hi ht hk hj dj
    have := h4 i (lt_of_some hi)
    rw [hi] at this
    simp only [List.contains_eq_mem, decide_eq_true ht, if_true, Bool.and_eq_true] at this
    have := List.all_eq_true.1 (List.all_eq_true.1 this.2 k hk) j (List.mem_range.2 (lt_of_some hj))
    simp [dstOf, hj, dj] at this
    exact this.2
  · intro i j o oj k hi ht hk hj dj
    have := h4 i (lt_of_some hi)
    rw [hi] at this
    simp only [List.contains_eq_mem, decide_eq_false ht, Bool.false_eq_true, if_false, Bool.and_eq_true] at this
    have := List.all_eq_true.1 (List.all_eq_true.1 this.1 k hk) j (List.mem_range.2 (lt_of_some hj))
    simp [dstOf, hj, dj] at this
    exact this
  · intro i o hi ht
    have := h4 i (lt_of_some hi)
    rw [hi] at this
    simp only [List.contains_eq_mem, decide_eq_false ht, Bool.false_eq_true, if_false, Bool.and_eq_true, Bool.or_eq_true] at this
    exact this.2
  · intro k hk
    exact h5 k (by omega)
  · intro t ht
    simpa using h6 t ht
  · intro e
    rw [e] at h7
    simp at h7
  · intro j o s hj hd
    have := h8 j (lt_of_some hj)
    simp [dstOf, hj, hd] at this
    exact this
end
end Go.Proofs.Ytkhbnklaglnfdaa
