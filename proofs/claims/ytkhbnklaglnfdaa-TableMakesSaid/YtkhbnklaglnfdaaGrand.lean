/- The general law for a region that draws its order. Operations of a row T turn the world as they please, one behind the other, at the end; of the others some leave values that are not known beforehand (slots made, each with a property S), each turns the world in its own way Z. Here: what is asked, and what one walk gives. -/
import Derived.Test.YtkhbnklaglnfdaaRely2
import Derived.Test.YtkhbnklaglnfdaaChain2
namespace Go.Proofs.Ytkhbnklaglnfdaa
open Go.RowKit

/-- a world of a class -/
structure CW (C : World → Prop) where
  w : World
  ok : C w

section
variable {P : Program} {C : World → Prop} {Z : Nat → World → World → Prop} {made T : List Nat} {S : Nat → Value → World → Prop} {ops : Array Oper}

def GUp (P : Program) (R : World → World → Prop) (U : Value → World → Prop) (w : World) : Result Next → Prop
  | .ok (.value v) w' => R w w' ∧ U v w'
  | .ok .skip w' => R w w' ∧ U undef w'
  | .ok (.enter f args) w' => w' = w ∧ Calls P f args w fun e w'' => ∃ v, e = .returned v ∧ R w w'' ∧ U v w''
  | _ => False
/-- an operation that leans on slots alone: it may come up whenever these are filled -/
def gfree (made : List Nat) (_ops : Array Oper) (o : Oper) : Bool := freeOp o && (ndOf made o).isNone
def GOk (P : Program) (C : World → Prop) (Z : Nat → World → World → Prop) (made : List Nat) (S : Nat → Value → World → Prop) (ops : Array Oper) (i : Nat) (o : Oper) (a : Act) (v : Value) : Prop :=
  match ndOf made o with
  | some d => v = undef ∧ ∀ (γ : Nat → Value) (w : World), C w → (∀ k ∈ lkOf made ops o, S k (γ k) w) → GUp P (Z i) (S d) w ((execOp (putG γ (lkOf made ops o) a).eval o).run P w)
  | none =>
    if lkOf made ops o = [] then
      (if freeOp o then ∀ w, (∃ n : AnyW, w = n.w) → o.quietAt P a (fun w => ∃ n : AnyW, w = n.w) w v
      else if isCall o then ∀ n : CW C, RUp P (Z i) n.w v ((execOp a.eval o).run P n.w)
      else ∀ w, (∃ n : CW C, w = n.w) → o.quietAt P a (fun w => ∃ n : CW C, w = n.w) w v)
    else if freeOp o then ∀ (γ : Nat → Value) (w : World), C w → (∀ k ∈ lkOf made ops o, S k (γ k) w) → ∀ w2, GUp P (fun a b => b = a) (fun u _ => u = v) w2 ((execOp (putG γ (lkOf made ops o) a).eval o).run P w2)
    else ∀ (γ : Nat → Value) (w : World), C w → (∀ k ∈ lkOf made ops o, S k (γ k) w) → GUp P (Z i) (fun u _ => u = v) w ((execOp (putG γ (lkOf made ops o) a).eval o).run P w)
def GNo (C : World → Prop) (made : List Nat) (S : Nat → Value → World → Prop) (o : Oper) : Prop := ∀ d, ndOf made o = some d → ∀ w, C w → S d undef w
def wpG (P : Program) (ops : Array Oper) (T : List Nat) (C : World → Prop) (Z : Nat → World → World → Prop) (made : List Nat) (S : Nat → Value → World → Prop) (Q : Act → Prop) : Nat → List Oper → Act → Prop
  | _, [], a => Q a
  | i, o :: rest, a =>
    if T.contains i then wpG P ops T C Z made S Q (i + 1) rest (a.put o.dst undef)
    else if Region.wanted o (yielded ops a.tmps) = true then ∃ v, GOk P C Z made S ops i o a v ∧ wpG P ops T C Z made S Q (i + 1) rest (a.put o.dst v)
    else GNo C made S o ∧ wpG P ops T C Z made S Q (i + 1) rest (a.put o.dst undef)
def GAt (P : Program) (ops : Array Oper) (T : List Nat) (C : World → Prop) (Z : Nat → World → World → Prop) (made : List Nat) (S : Nat → Value → World → Prop) (i : Nat) (o : Oper) (a : Act) (v : Value) : Prop :=
  (T.contains i = true) ∨ (Region.wanted o (yielded ops a.tmps) = true ∧ GOk P C Z made S ops i o a v) ∨ (Region.wanted o (yielded ops a.tmps) = false ∧ v = undef ∧ GNo C made S o)
theorem g_ext {Q : Act → Prop} : ∀ (l : List Oper) (i : Nat) (a : Act), wpG P ops T C Z made S Q i l a →
    ∃ vals : Nat → Value, (∀ j o, l[j]? = some o → GAt P ops T C Z made S (i + j) o (frs a l vals j) (vals j)) ∧ Q (frs a l vals l.length)
  | [], i, a, h => ⟨fun _ => undef, fun j o hj => by simp at hj, h⟩
  | o :: l, i, a, h => by
    have key : ∀ v, GAt P ops T C Z made S i o a v → wpG P ops T C Z made S Q (i + 1) l (a.put o.dst v) → ∃ vals : Nat → Value, (∀ j o', (o :: l)[j]? = some o' → GAt P ops T C Z made S (i + j) o' (frs a (o :: l) vals j) (vals j)) ∧ Q (frs a (o :: l) vals (o :: l).length) := by
      intro v hv hr
      obtain ⟨vs, h1, h2⟩ := g_ext l (i + 1) _ hr
      refine ⟨fun i => match i with | 0 => v | i + 1 => vs i, fun j o' hj => ?_, ?_⟩
      · cases j with
        | zero =>
          simp at hj
          subst hj
          exact hv
        | succ j =>
          rw [frs_cons, show i + (j + 1) = i + 1 + j by omega]
          exact h1 j o' hj
      · rw [List.length_cons, frs_cons]
        exact h2
    unfold wpG at h
    by_cases ht : T.contains i = true
    · rw [if_pos ht] at h
      exact key undef (.inl ht) h
    · rw [if_neg ht] at h
      by_cases hw : Region.wanted o (yielded ops a.tmps) = true
      · rw [if_pos hw] at h
        obtain ⟨v, hv, hr⟩ := h
        exact key v (.inr (.inl ⟨hw, hv⟩)) hr
      · rw [if_neg hw] at h
        exact key undef (.inr (.inr ⟨by simpa using hw, rfl, h.1⟩)) h.2

/-- a way of edges from the first to the last -/
def pathB (ops : Array Oper) : List Nat → Bool
  | x :: y :: r => Region.waitsFor .any ops x y && pathB ops (y :: r)
  | _ => true
def grandB (T made : List Nat) (pt : List (List Nat)) (N : Nat) (ops : Array Oper) : Bool :=
  Region.noSelect ops &&
  ((List.range ops.size).all fun i => (List.range ops.size).all fun j => i == j || (dstOf ops i).isNone || dstOf ops i != dstOf ops j) &&
  ((List.range ops.size).all fun i => backB ops i) &&
  ((List.range ops.size).all fun i => lookB ops i) &&
  ((List.range ops.size).all fun i => match ops[i]? with
    | some o => if T.contains i then o.guard.isNone && (o.looksAt ops).all fun k => (List.range ops.size).all fun j => dstOf ops j != some k || (decide (j < i) && Region.waitsFor .any ops i j)
      else ((o.looksAt ops).all fun k => (List.range ops.size).all fun j => dstOf ops j != some k || !T.contains j) &&
        ((o.looksAt ops).all fun k => !made.contains k || (List.range i).any fun j => dstOf ops j == some k && Region.waitsFor .any ops i j) &&
        (match o.guard with | some (g, _) => (match dstOf ops g with | some k => !made.contains k | none => true) | none => true) &&
        (plain o || isCall o || (ndOf made o).isSome || !(lkOf made ops o).isEmpty) &&
        (gfree made ops o || T.isEmpty || Region.waitsFor .any ops (T.headD 0) i || pt.any fun p => p.head? == some (T.headD 0) && p.getLast? == some i && pathB ops p)
    | none => true) &&
  ((List.range (T.length - 1)).all fun k => Region.waitsFor .any ops (T.getD (k + 1) 0) (T.getD k 0)) &&
  (T.all fun t => decide (t < ops.size)) &&
  (made.all fun d => (List.range ops.size).any fun i => dstOf ops i == some d && !T.contains i) &&
  ((List.range ops.size).all fun j => match dstOf ops j with | some s => decide (s < N) | none => true) &&
  (made.all fun d => decide (d < N))
structure GrandOk (T made : List Nat) (pt : List (List Nat)) (N : Nat) (ops : Array Oper) : Prop where
  sel : ∀ (j : Nat) (o : Oper) cs b, ops[j]? = some o → o.op ≠ .select cs b
  dist : ∀ (i j : Nat) (oi oj : Oper) (k : Nat), ops[i]? = some oi → ops[j]? = some oj → oi.dst = some k → oj.dst = some k → i = j
  back : ∀ (i : Nat) (o : Oper), ops[i]? = some o → ∀ e ∈ o.after, Region.binds .any e = true → e.on < i
  look : ∀ (i j : Nat) (oi oj : Oper) (k : Nat), ops[i]? = some oi → ops[j]? = some oj → k ∈ oi.looksAt ops → oj.dst = some k → (j < i ∧ Region.waitsFor .any ops i j = true) ∨ (i < j ∧ Region.waitsFor .any ops j i = true)
  tg : ∀ (i : Nat) (o : Oper), ops[i]? = some o → i ∈ T → o.guard = none
  tl : ∀ (i j : Nat) (o oj : Oper) (k : Nat), ops[i]? = some o → i ∈ T → k ∈ o.looksAt ops → ops[j]? = some oj → oj.dst = some k → Region.waitsFor .any ops i j = true
  nl : ∀ (i j : Nat) (o oj : Oper) (k : Nat), ops[i]? = some o → i ∉ T → k ∈ o.looksAt ops → ops[j]? = some oj → oj.dst = some k → j ∉ T
  made_ : ∀ (i : Nat) (o : Oper) (k : Nat), ops[i]? = some o → i ∉ T → k ∈ o.looksAt ops → k ∈ made → ∃ (j : Nat) (oj : Oper), ops[j]? = some oj ∧ oj.dst = some k ∧ Region.waitsFor .any ops i j = true
  grd : ∀ (i : Nat) (o : Oper) (g : Nat) (b : Bool) (k : Nat), ops[i]? = some o → i ∉ T → o.guard = some (g, b) → dstOf ops g = some k → k ∉ made
  pl : ∀ (i : Nat) (o : Oper), ops[i]? = some o → i ∉ T → plain o = true ∨ isCall o = true ∨ (ndOf made o).isSome = true ∨ lkOf made ops o ≠ []
  fr : ∀ (i : Nat) (o : Oper), ops[i]? = some o → i ∉ T → gfree made ops o = true ∨ T = [] ∨ Region.waitsFor .any ops (T.headD 0) i = true ∨ ∃ p ∈ pt, p.head? = some (T.headD 0) ∧ p.getLast? = some i ∧ pathB ops p = true
  row : ∀ k, k + 1 < T.length → Region.waitsFor .any ops (T.getD (k + 1) 0) (T.getD k 0) = true
  tin : ∀ t ∈ T, t < ops.size
  has : ∀ d ∈ made, ∃ (j : Nat) (oj : Oper), ops[j]? = some oj ∧ oj.dst = some d ∧ j ∉ T
  size : ∀ (j : Nat) (o : Oper) (s : Nat), ops[j]? = some o → o.dst = some s → s < N
  msize : ∀ d ∈ made, d < N
theorem grand_spec {pt : List (List Nat)} {N : Nat} (h : grandB T made pt N ops = true) : GrandOk T made pt N ops := by
  simp only [grandB, Bool.and_eq_true, List.all_eq_true, List.mem_range] at h
  obtain ⟨⟨⟨⟨⟨⟨⟨⟨⟨h0, h1⟩, h2⟩, h3⟩, h4⟩, h5⟩, h6⟩, h7⟩, h8⟩, h9⟩ := h
  refine ⟨Region.noSelect_spec h0, ?_, ?_, ?_, ?_, ?_, ?_, ?_, ?_, ?_, ?_, ?_, ?_, ?_, ?_, ?_⟩
  · intro i j oi oj k hi hj di dj
    have := h1 i (lt_of_some hi) j (lt_of_some hj)
    simp [dstOf, hi, hj, di, dj] at this
    exact this
  · intro i o hi e he hb
    have := h2 i (lt_of_some hi)
    unfold backB at this
    rw [hi] at this
    have := Array.all_eq_true'.1 this e he
    simp [hb] at this
    exact this
  · intro i j oi oj k hi hj hk dj
    have := h3 i (lt_of_some hi)
    unfold lookB at this
    rw [hi] at this
    have := List.all_eq_true.1 (List.all_eq_true.1 this k hk) j (List.mem_range.2 (lt_of_some hj))
    simp [dstOf, hj, dj] at this
    exact this
  · intro i o hi ht
    have := h4 i (lt_of_some hi)
    rw [hi] at this
    simp only [List.contains_eq_mem, decide_eq_true ht, if_true, Bool.and_eq_true, Option.isNone_iff_eq_none] at this
    exact this.1
  · intro i j o oj k hi ht hk hj dj
    have := h4 i (lt_of_some hi)
    rw [hi] at this
    simp only [List.contains_eq_mem, decide_eq_true ht, if_true, Bool.and_eq_true] at this
    have := List.all_eq_true.1 (List.all_eq_true.1 this.2 k hk) j (List.mem_range.2 (lt_of_some hj))
    simp [dstOf, hj, dj] at this
    exact this.2
  · intro i j o oj k hi ht hk hj dj
    have := h4 i (lt_of_some hi)
    rw [hi] at this
    simp only [List.contains_eq_mem, decide_eq_false ht, Bool.false_eq_true, if_false, Bool.and_eq_true] at this
    have := List.all_eq_true.1 (List.all_eq_true.1 this.1.1.1.1 k hk) j (List.mem_range.2 (lt_of_some hj))
    simp [dstOf, hj, dj] at this
    exact this
  · intro i o k hi ht hk hm
    have := h4 i (lt_of_some hi)
    rw [hi] at this
    simp only [List.contains_eq_mem, decide_eq_false ht, Bool.false_eq_true, if_false, Bool.and_eq_true, List.all_eq_true, Bool.or_eq_true, List.any_eq_true] at this
    rcases this.1.1.1.2 k hk with h9 | ⟨j, hj, h9, h10⟩
    · simp [hm] at h9
    · obtain ⟨oj, hoj, hd⟩ := dst_spec h9
      exact ⟨j, oj, hoj, hd, h10⟩
  · intro i o g b k hi ht hg hd
    have := h4 i (lt_of_some hi)
    rw [hi] at this
    simp only [List.contains_eq_mem, decide_eq_false ht, Bool.false_eq_true, if_false, Bool.and_eq_true, hg, hd] at this
    simpa using this.1.1.2
  · intro i o hi ht
    have := h4 i (lt_of_some hi)
    rw [hi] at this
    simp only [List.contains_eq_mem, decide_eq_false ht, Bool.false_eq_true, if_false, Bool.and_eq_true, Bool.or_eq_true] at this
    rcases this.1.2 with ((h9 | h9) | h9) | h9
    · exact .inl h9
    · exact .inr (.inl h9)
    · exact .inr (.inr (.inl h9))
    · refine .inr (.inr (.inr fun e => ?_))
      rw [e] at h9
      simp at h9
  · intro i o hi ht
    have := h4 i (lt_of_some hi)
    rw [hi] at this
    simp only [List.contains_eq_mem, decide_eq_false ht, Bool.false_eq_true, if_false, Bool.and_eq_true, Bool.or_eq_true, List.any_eq_true] at this
    rcases this.2 with ((h9 | h9) | h9) | ⟨p, hp, h9⟩
    · exact .inl h9
    · exact .inr (.inl (by simpa using h9))
    · exact .inr (.inr (.inl h9))
    · exact .inr (.inr (.inr ⟨p, hp, by simpa using h9.1.1, by simpa using h9.1.2, h9.2⟩))
  · intro k hk
    exact h5 k (by omega)
  · intro t ht
    simpa using h6 t ht
  · intro d hd
    obtain ⟨i, _, hi⟩ := by simpa only [List.any_eq_true] using h7 d hd
    rw [Bool.and_eq_true] at hi
    obtain ⟨o, ho, hk⟩ := dst_spec hi.1
    exact ⟨i, o, ho, hk, by simpa using hi.2⟩
  · intro j o s hj hd
    have := h8 j (lt_of_some hj)
    simp [dstOf, hj, hd] at this
    exact this
  · intro d hd
    simpa using h9 d hd
end
end Go.Proofs.Ytkhbnklaglnfdaa
