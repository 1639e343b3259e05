/- The law for a region that draws its order, in phases: the operations of a row T (calls, stores) take the world from a class to the next one, one behind the other; each other operation that asks more than a class E for all phases stands, by ways of edges, between two of the row. Here: what is asked, and what one walk gives. -/
import Derived.Test.YtdfklbjkcednhaaGrand2
namespace Go.Proofs.Ytdfklbjkcednhaa
open Go.RowKit

/-- between two phases -/
def CR (C : Nat → World → Prop) (b : Nat × Nat) : World → Prop := fun w => ∃ p, b.1 ≤ p ∧ p ≤ b.2 ∧ C p w

section
variable {P : Program} {E : World → Prop} {C : Nat → World → Prop} {B : List (Nat × Nat)} {Z : Nat → World → World → Prop} {made T : List Nat} {S : Nat → Value → World → Prop} {ops : Array Oper}

/-- the slots of made that the i-th operation looks at, filled by operations ahead of it in the text -/
def lkI (made : List Nat) (ops : Array Oper) (i : Nat) (o : Oper) : List Nat := made.filter fun k => (o.looksAt ops).contains k && (List.range i).any fun j => dstOf ops j == some k
def HOk (P : Program) (E C : World → Prop) (Z : World → World → Prop) (made : List Nat) (S : Nat → Value → World → Prop) (ops : Array Oper) (i : Nat) (o : Oper) (a : Act) (v : Value) : Prop :=
  match ndOf made o with
  | some d => v = undef ∧ ∀ (γ : Nat → Value) (w : World), C w → (∀ k ∈ lkI made ops i o, S k (γ k) w) → GUp P Z (S d) w ((execOp (putG γ (lkI made ops i o) a).eval o).run P w)
  | none =>
    if lkI made ops i o = [] then
      (if freeOp o then ∀ w, (∃ n : AnyW, w = n.w) → o.quietAt P a (fun w => ∃ n : AnyW, w = n.w) w v
      else if plain o then ∀ w, (∃ n : CW E, w = n.w) → o.quietAt P a (fun w => ∃ n : CW E, w = n.w) w v
      else ∀ w, C w → GUp P Z (fun u _ => u = v) w ((execOp a.eval o).run P w))
    else ∀ (γ : Nat → Value) (w : World), C w → (∀ k ∈ lkI made ops i o, S k (γ k) w) → GUp P Z (fun u _ => u = v) w ((execOp (putG γ (lkI made ops i o) a).eval o).run P w)
def HNo (C : World → Prop) (Z : World → World → Prop) (made : List Nat) (S : Nat → Value → World → Prop) (inT : Bool) (o : Oper) : Prop := (∀ d, ndOf made o = some d → ∀ w, C w → S d undef w) ∧ (inT = true → ∀ w, C w → Z w w)
def wpH (P : Program) (ops : Array Oper) (T : List Nat) (E : World → Prop) (C : Nat → World → Prop) (B : List (Nat × Nat)) (Z : Nat → World → World → Prop) (made : List Nat) (S : Nat → Value → World → Prop) (Q : Act → Prop) : Nat → List Oper → Act → Prop
  | _, [], a => Q a
  | i, o :: rest, a =>
    if Region.wanted o (yielded ops a.tmps) = true then ∃ v, HOk P E (CR C (B.getD i (0, 0))) (Z i) made S ops i o a v ∧ wpH P ops T E C B Z made S Q (i + 1) rest (a.put o.dst v)
    else HNo (CR C (B.getD i (0, 0))) (Z i) made S (T.contains i) o ∧ wpH P ops T E C B Z made S Q (i + 1) rest (a.put o.dst undef)
def HAt (P : Program) (ops : Array Oper) (T : List Nat) (E : World → Prop) (C : Nat → World → Prop) (B : List (Nat × Nat)) (Z : Nat → World → World → Prop) (made : List Nat) (S : Nat → Value → World → Prop) (i : Nat) (o : Oper) (a : Act) (v : Value) : Prop :=
  (Region.wanted o (yielded ops a.tmps) = true ∧ HOk P E (CR C (B.getD i (0, 0))) (Z i) made S ops i o a v) ∨ (Region.wanted o (yielded ops a.tmps) = false ∧ v = undef ∧ HNo (CR C (B.getD i (0, 0))) (Z i) made S (T.contains i) o)
theorem h_ext {Q : Act → Prop} : ∀ (l : List Oper) (i : Nat) (a : Act), wpH P ops T E C B Z made S Q i l a →
    ∃ vals : Nat → Value, (∀ j o, l[j]? = some o → HAt P ops T E C B Z made S (i + j) o (frs a l vals j) (vals j)) ∧ Q (frs a l vals l.length)
  | [], i, a, h => ⟨fun _ => undef, fun j o hj => by simp at hj, h⟩
  | o :: l, i, a, h => by
    have key : ∀ v, HAt P ops T E C B Z made S i o a v → wpH P ops T E C B Z made S Q (i + 1) l (a.put o.dst v) → ∃ vals : Nat → Value, (∀ j o', (o :: l)[j]? = some o' → HAt P ops T E C B Z made S (i + j) o' (frs a (o :: l) vals j) (vals j)) ∧ Q (frs a (o :: l) vals (o :: l).length) := by
      intro v hv hr
      obtain ⟨vs, h1, h2⟩ := h_ext l (i + 1) _ hr
      refine ⟨fun i => match i with | 0 => v | i + 1 => vs i, fun j o' hj => ?_, ?_⟩
      · cases j with
        | zero =>
          simp at hj
          subst hj
          exact hv
        | succ j =>
          rw [frs_cons, show i + (j + 1) = i + 1 + j by omega]
          exact h1 j o' hj
      · rw [List.length_cons, frs_cons]
        exact h2
    unfold wpH at h
    by_cases hw : Region.wanted o (yielded ops a.tmps) = true
    · rw [if_pos hw] at h
      obtain ⟨v, hv, hr⟩ := h
      exact key v (.inl ⟨hw, hv⟩) hr
    · rw [if_neg hw] at h
      exact key undef (.inr ⟨by simpa using hw, rfl, h.1⟩) h.2

/-- an operation that asks nothing of a phase -/
def hfree (made : List Nat) (ops : Array Oper) (i : Nat) (o : Oper) : Bool := (freeOp o || plain o) && (ndOf made o).isNone && (lkI made ops i o).isEmpty
/-- x waits for y, by one edge or a given way -/
def wayB (ops : Array Oper) (pt : List (List Nat)) (x y : Nat) : Bool := Region.waitsFor .any ops x y || pt.any fun p => p.head? == some x && p.getLast? == some y && pathB ops p
def phaseB (T made : List Nat) (B : List (Nat × Nat)) (pt : List (List Nat)) (N : Nat) (ops : Array Oper) : Bool :=
  Region.noSelect ops &&
  ((List.range ops.size).all fun i => (List.range ops.size).all fun j => i == j || (dstOf ops i).isNone || dstOf ops i != dstOf ops j) &&
  ((List.range ops.size).all fun i => backB ops i) &&
  ((List.range ops.size).all fun i => lookB ops i) &&
  ((List.range ops.size).all fun i => match ops[i]? with
    | some o =>
        ((lkI made ops i o).all fun k => (List.range i).any fun j => dstOf ops j == some k && Region.waitsFor .any ops i j) &&
        (match o.guard with | some (g, _) => (match dstOf ops g with | some k => !made.contains k | none => true) | none => true) &&
        (!hfree made ops i o || !T.contains i) &&
        (hfree made ops i o || ((B.getD i (0, 0)).1 == 0 || wayB ops pt i (T.getD ((B.getD i (0, 0)).1 - 1) 0)) && decide ((B.getD i (0, 0)).1 ≤ T.length)) &&
        (hfree made ops i o || decide (T.length ≤ (B.getD i (0, 0)).2) || T.getD (B.getD i (0, 0)).2 0 == i || wayB ops pt (T.getD (B.getD i (0, 0)).2 0) i)
    | none => true) &&
  ((List.range T.length).all fun k => B.getD (T.getD k 0) (0, 0) == (k, k)) &&
  ((List.range (T.length - 1)).all fun k => wayB ops pt (T.getD (k + 1) 0) (T.getD k 0)) &&
  (T.all fun t => decide (t < ops.size)) &&
  (made.all fun d => (List.range ops.size).any fun i => dstOf ops i == some d) &&
  ((List.range ops.size).all fun j => match dstOf ops j with | some s => decide (s < N) | none => true) &&
  (made.all fun d => decide (d < N))
def Wayed (ops : Array Oper) (x y : Nat) : Prop := Region.waitsFor .any ops x y = true ∨ ∃ p : List Nat, p.head? = some x ∧ p.getLast? = some y ∧ pathB ops p = true
theorem way_spec {pt : List (List Nat)} {x y : Nat} (h : wayB ops pt x y = true) : Wayed ops x y := by
  unfold wayB at h
  rw [Bool.or_eq_true, List.any_eq_true] at h
  rcases h with h | ⟨p, _, h⟩
  · exact .inl h
  · simp only [Bool.and_eq_true, beq_iff_eq] at h
    exact .inr ⟨p, h.1.1, h.1.2, h.2⟩
structure PhaseOk (T made : List Nat) (B : List (Nat × Nat)) (N : Nat) (ops : Array Oper) : Prop where
  sel : ∀ (j : Nat) (o : Oper) cs b, ops[j]? = some o → o.op ≠ .select cs b
  dist : ∀ (i j : Nat) (oi oj : Oper) (k : Nat), ops[i]? = some oi → ops[j]? = some oj → oi.dst = some k → oj.dst = some k → i = j
  back : ∀ (i : Nat) (o : Oper), ops[i]? = some o → ∀ e ∈ o.after, Region.binds .any e = true → e.on < i
  look : ∀ (i j : Nat) (oi oj : Oper) (k : Nat), ops[i]? = some oi → ops[j]? = some oj → k ∈ oi.looksAt ops → oj.dst = some k → (j < i ∧ Region.waitsFor .any ops i j = true) ∨ (i < j ∧ Region.waitsFor .any ops j i = true)
  made_ : ∀ (i : Nat) (o : Oper) (k : Nat), ops[i]? = some o → k ∈ lkI made ops i o → ∃ (j : Nat) (oj : Oper), ops[j]? = some oj ∧ oj.dst = some k ∧ Region.waitsFor .any ops i j = true
  grd : ∀ (i : Nat) (o : Oper) (g : Nat) (b : Bool) (k : Nat), ops[i]? = some o → o.guard = some (g, b) → dstOf ops g = some k → k ∉ made
  ft : ∀ (i : Nat) (o : Oper), ops[i]? = some o → hfree made ops i o = true → i ∉ T
  lo : ∀ (i : Nat) (o : Oper), ops[i]? = some o → hfree made ops i o = false → (B.getD i (0, 0)).1 ≤ T.length ∧ ((B.getD i (0, 0)).1 = 0 ∨ Wayed ops i (T.getD ((B.getD i (0, 0)).1 - 1) 0))
  hi : ∀ (i : Nat) (o : Oper), ops[i]? = some o → hfree made ops i o = false → T.length ≤ (B.getD i (0, 0)).2 ∨ T.getD (B.getD i (0, 0)).2 0 = i ∨ Wayed ops (T.getD (B.getD i (0, 0)).2 0) i
  own : ∀ k, k < T.length → B.getD (T.getD k 0) (0, 0) = (k, k)
  row : ∀ k, k + 1 < T.length → Wayed ops (T.getD (k + 1) 0) (T.getD k 0)
  tin : ∀ t ∈ T, t < ops.size
  has : ∀ d ∈ made, ∃ (j : Nat) (oj : Oper), ops[j]? = some oj ∧ oj.dst = some d
  size : ∀ (j : Nat) (o : Oper) (s : Nat), ops[j]? = some o → o.dst = some s → s < N
  msize : ∀ d ∈ made, d < N
theorem phase_spec {pt : List (List Nat)} {N : Nat} (h : phaseB T made B pt N ops = true) : PhaseOk T made B N ops := by
  simp only [phaseB, Bool.and_eq_true, List.all_eq_true, List.mem_range] at h
  obtain ⟨⟨⟨⟨⟨⟨⟨⟨⟨⟨h0, h1⟩, h2⟩, h3⟩, h4⟩, h5⟩, h5'⟩, h6⟩, h7⟩, h8⟩, h9⟩ := h
  refine ⟨Region.noSelect_spec h0, ?_, ?_, ?_, ?_, ?_, ?_, ?_, ?_, ?_, ?_, ?_, ?_, ?_, ?_⟩
  · intro i j oi oj k hi hj di dj
    have := h1 i (lt_of_some hi) j (lt_of_some hj)
    simp [dstOf, hi, hj, di, dj] at this
    exact this
  · intro i o hi e he hb
    have := h2 i (lt_of_some hi)
    unfold backB at this
    rw [hi] at this
    have := Array.all_eq_true'.1 this e he
    simp [hb] at this
    exact this
  · intro i j oi oj k hi hj hk dj
    have := h3 i (lt_of_some hi)
    unfold lookB at this
    rw [hi] at this
    have := List.all_eq_true.1 (List.all_eq_true.1 this k hk) j (List.mem_range.2 (lt_of_some hj))
    simp [dstOf, hj, dj] at this
    exact this
  · intro i o k hi hk
    have := h4 i (lt_of_some hi)
    rw [hi] at this
    simp only [Bool.and_eq_true, List.all_eq_true, List.any_eq_true] at this
    obtain ⟨j, hj, h9, h10⟩ := this.1.1.1.1 k hk
    obtain ⟨oj, hoj, hd⟩ := dst_spec h9
    exact ⟨j, oj, hoj, hd, h10⟩
  · intro i o g b k hi hg hd
    have := h4 i (lt_of_some hi)
    rw [hi] at this
    simp only [Bool.and_eq_true, hg, hd] at this
    simpa using this.1.1.1.2
  · intro i o hi hf
    have := h4 i (lt_of_some hi)
    rw [hi] at this
    simp only [Bool.and_eq_true] at this
    have := this.1.1.2
    rw [hf] at this
    simpa using this
  · intro i o hi hf
    have := h4 i (lt_of_some hi)
    rw [hi] at this
    simp only [Bool.and_eq_true] at this
    have := this.1.2
    rw [hf] at this
    simp only [Bool.false_or, Bool.and_eq_true, Bool.or_eq_true, beq_iff_eq, decide_eq_true_eq] at this
    exact ⟨this.2, this.1.imp id way_spec⟩
  · intro i o hi hf
    have := h4 i (lt_of_some hi)
    rw [hi] at this
    simp only [Bool.and_eq_true] at this
    have := this.2
    rw [hf] at this
    simp only [Bool.false_or, Bool.or_eq_true, beq_iff_eq, decide_eq_true_eq] at this
    rcases this with (h | h) | h
    · exact .inl h
    · exact .inr (.inl h)
    · exact .inr (.inr (way_spec h))
  · intro k hk
    simpa using h5 k hk
  · intro k hk
    exact way_spec (h5' k (by omega))
  · intro t ht
    simpa using h6 t ht
  · intro d hd
    obtain ⟨i, _, hi⟩ := by simpa only [List.any_eq_true] using h7 d hd
    obtain ⟨o, ho, hk⟩ := dst_spec hi
    exact ⟨i, o, ho, hk⟩
  · intro j o s hj hd
    have := h8 j (lt_of_some hj)
    simp [dstOf, hj, hd] at this
    exact this
  · intro d hd
    simpa using h9 d hd
end
end Go.Proofs.Ytdfklbjkcednhaa
