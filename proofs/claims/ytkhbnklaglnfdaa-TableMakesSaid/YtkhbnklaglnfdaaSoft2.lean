/- The law of a region that draws its order (see Soft): one walk, in the order of the text, serves every order. -/
import Derived.Test.YtkhbnklaglnfdaaSoft
namespace Go.Proofs.Ytkhbnklaglnfdaa
open Go.RowKit

def dstOf (ops : Array Oper) (j : Nat) : Option Nat := (ops[j]?).bind (·.dst)
def sOf (made : List Nat) (ops : Array Oper) (i : Nat) : Option Nat := match ops[i]? with
  | some o => match kd made o with
    | .s d => some d
    | _ => none
  | none => none
def mOf (made : List Nat) (ops : Array Oper) (i : Nat) : Option Nat := match ops[i]? with
  | some o => match kd made o with
    | .m d => some d
    | _ => none
  | none => none
def kindB (made : List Nat) (ops : Array Oper) (i : Nat) : Bool := match ops[i]? with
  | some o => match kd made o with
    | .q => (o.looksAt ops).all (fun k => !made.contains k) && (match o.dst with | some d => !made.contains d | none => true) && (plain o || isCall o)
    | .m _ => o.guard.isNone && (o.looksAt ops).all (fun k => !made.contains k)
    | .s d => o.guard.isNone && o.dst.isNone && (o.looksAt ops).all (fun k => k == d || !made.contains k) && (List.range ops.size).any (fun j => mOf made ops j == some d && Region.waitsFor .any ops i j)
  | none => true
def lookB (ops : Array Oper) (i : Nat) : Bool := match ops[i]? with
  | some o => (o.looksAt ops).all fun k => (List.range ops.size).all fun j => dstOf ops j != some k || (decide (j < i) && Region.waitsFor .any ops i j) || (decide (i < j) && Region.waitsFor .any ops j i)
  | none => true
def backB (ops : Array Oper) (i : Nat) : Bool := match ops[i]? with
  | some o => o.after.all fun e => !Region.binds .any e || decide (e.on < i)
  | none => true
/-- what is asked of a region's text -/
def softB (made : List Nat) (N : Nat) (ops : Array Oper) : Bool :=
  Region.noSelect ops &&
  ((List.range ops.size).all fun i => (List.range ops.size).all fun j => i == j || (dstOf ops i).isNone || dstOf ops i != dstOf ops j) &&
  ((List.range ops.size).all fun i => backB ops i) &&
  ((List.range ops.size).all fun i => lookB ops i) &&
  ((List.range ops.size).all fun i => kindB made ops i) &&
  ((List.range ops.size).all fun i => (List.range ops.size).all fun j => i == j || (sOf made ops i).isNone || sOf made ops i != sOf made ops j) &&
  (made.all fun d => (List.range ops.size).any (fun i => mOf made ops i == some d) && (List.range ops.size).any (fun i => sOf made ops i == some d)) &&
  ((List.range ops.size).all fun j => match dstOf ops j with | some s => decide (s < N) | none => true) &&
  (made.all fun d => decide (d < N))

structure SoftOk (made : List Nat) (N : Nat) (ops : Array Oper) : Prop where
  sel : ∀ (j : Nat) (o : Oper) cs b, ops[j]? = some o → o.op ≠ .select cs b
  dist : ∀ (i j : Nat) (oi oj : Oper) (k : Nat), ops[i]? = some oi → ops[j]? = some oj → oi.dst = some k → oj.dst = some k → i = j
  back : ∀ (i : Nat) (o : Oper), ops[i]? = some o → ∀ e ∈ o.after, Region.binds .any e = true → e.on < i
  look : ∀ (i j : Nat) (oi oj : Oper) (k : Nat), ops[i]? = some oi → ops[j]? = some oj → k ∈ oi.looksAt ops → oj.dst = some k → (j < i ∧ Region.waitsFor .any ops i j = true) ∨ (i < j ∧ Region.waitsFor .any ops j i = true)
  kq : ∀ (i : Nat) (o : Oper), ops[i]? = some o → kd made o = .q → (∀ k ∈ o.looksAt ops, k ∉ made) ∧ (∀ d, o.dst = some d → d ∉ made) ∧ (plain o = true ∨ isCall o = true)
  km : ∀ (i : Nat) (o : Oper) (d : Nat), ops[i]? = some o → kd made o = .m d → o.dst = some d ∧ d ∈ made ∧ o.guard = none ∧ (∀ k ∈ o.looksAt ops, k ∉ made)
  ks : ∀ (i : Nat) (o : Oper) (d : Nat), ops[i]? = some o → kd made o = .s d → d ∈ made ∧ d ∈ o.looksAt ops ∧ o.guard = none ∧ o.dst = none ∧ (∀ k ∈ o.looksAt ops, k = d ∨ k ∉ made) ∧ ∃ (j : Nat) (oj : Oper), ops[j]? = some oj ∧ kd made oj = .m d ∧ Region.waitsFor .any ops i j = true
  ones : ∀ (i j : Nat) (oi oj : Oper) (d : Nat), ops[i]? = some oi → ops[j]? = some oj → kd made oi = .s d → kd made oj = .s d → i = j
  hasM : ∀ d ∈ made, ∃ (j : Nat) (oj : Oper), ops[j]? = some oj ∧ kd made oj = .m d
  hasS : ∀ d ∈ made, ∃ (j : Nat) (oj : Oper), ops[j]? = some oj ∧ kd made oj = .s d
  size : ∀ (j : Nat) (o : Oper) (s : Nat), ops[j]? = some o → o.dst = some s → s < N
  msize : ∀ d ∈ made, d < N

theorem mOf_spec {made : List Nat} {ops : Array Oper} {i d : Nat} (h : (mOf made ops i == some d) = true) : ∃ o, ops[i]? = some o ∧ kd made o = .m d := by
  unfold mOf at h
  cases ho : ops[i]? with
  | none => simp [ho] at h
  | some o =>
    cases hk : kd made o with
    | m d' => simp [ho, hk] at h; subst h; exact ⟨o, rfl, hk⟩
    | q => simp [ho, hk] at h
    | s d' => simp [ho, hk] at h
theorem sOf_spec {made : List Nat} {ops : Array Oper} {i d : Nat} (h : (sOf made ops i == some d) = true) : ∃ o, ops[i]? = some o ∧ kd made o = .s d := by
  unfold sOf at h
  cases ho : ops[i]? with
  | none => simp [ho] at h
  | some o =>
    cases hk : kd made o with
    | s d' => simp [ho, hk] at h; subst h; exact ⟨o, rfl, hk⟩
    | q => simp [ho, hk] at h
    | m d' => simp [ho, hk] at h
theorem kd_m {made : List Nat} {o : Oper} {d : Nat} (h : kd made o = .m d) : o.dst = some d ∧ d ∈ made := by
  unfold kd at h
  split at h
  · split at h
    · split at h
      · injection h with h; subst h; rename_i hd hm; exact ⟨hd, by simpa using hm⟩
      · cases h
    · cases h
  · split at h <;> cases h
  · cases h
theorem kd_s {made : List Nat} {o : Oper} {d : Nat} (h : kd made o = .s d) : d ∈ made ∧ ∃ t x, o.op = .store t (.tmp d) x := by
  unfold kd at h
  split at h
  · split at h
    · split at h <;> cases h
    · cases h
  · rename_i t d' x hop
    split at h
    · injection h with h; subst h; rename_i hm; exact ⟨by simpa using hm, t, x, hop⟩
    · cases h
  · cases h
theorem lt_of_some {ops : Array Oper} {i : Nat} {o : Oper} (h : ops[i]? = some o) : i < ops.size := (Array.getElem?_eq_some_iff.1 h).1

theorem soft_spec {made : List Nat} {N : Nat} {ops : Array Oper} (h : softB made N ops = true) : SoftOk made N ops := by
  simp only [softB, Bool.and_eq_true, List.all_eq_true, List.mem_range] at h
  obtain ⟨⟨⟨⟨⟨⟨⟨⟨h0, h1⟩, h2⟩, h3⟩, h4⟩, h5⟩, h6⟩, h7⟩, h8⟩ := h
  refine ⟨Region.noSelect_spec h0, ?_, ?_, ?_, ?_, ?_, ?_, ?_, ?_, ?_, ?_, ?_⟩
  · intro i j oi oj k hi hj di dj
    have := h1 i (lt_of_some hi) j (lt_of_some hj)
    simp [dstOf, hi, hj, di, dj] at this
    exact this
  · intro i o hi e he hb
    have := h2 i (lt_of_some hi)
    unfold backB at this
    rw [hi] at this
    have := Array.all_eq_true'.1 this e he
    simp [hb] at this
    exact this
  · intro i j oi oj k hi hj hk dj
    have := h3 i (lt_of_some hi)
    unfold lookB at this
    rw [hi] at this
    have := List.all_eq_true.1 (List.all_eq_true.1 this k hk) j (List.mem_range.2 (lt_of_some hj))
    simp [dstOf, hj, dj] at this
    exact this
  · intro i o hi hk
    have := h4 i (lt_of_some hi)
    unfold kindB at this
    rw [hi] at this
    simp only [hk, Bool.and_eq_true, List.all_eq_true, Bool.or_eq_true] at this
    refine ⟨fun k hk => by simpa using this.1.1 k hk, fun d hd => ?_, this.2⟩
    have h9 := this.1.2
    rw [hd] at h9
    simpa using h9
  · intro i o d hi hk
    have := h4 i (lt_of_some hi)
    unfold kindB at this
    rw [hi] at this
    simp only [hk, Bool.and_eq_true, List.all_eq_true, Option.isNone_iff_eq_none] at this
    exact ⟨(kd_m hk).1, (kd_m hk).2, this.1, fun k hk => by simpa using this.2 k hk⟩
  · intro i o d hi hk
    have := h4 i (lt_of_some hi)
    unfold kindB at this
    rw [hi] at this
    simp only [hk, Bool.and_eq_true, List.all_eq_true, Option.isNone_iff_eq_none, List.any_eq_true] at this
    obtain ⟨⟨⟨a1, a2⟩, a3⟩, j, hj, a4, a5⟩ := this
    obtain ⟨hm, t, x, hop⟩ := kd_s hk
    obtain ⟨oj, hoj, hkj⟩ := mOf_spec a4
    refine ⟨hm, ?_, a1, a2, fun k hk => by simpa using a3 k hk, j, oj, hoj, hkj, a5⟩
    unfold Oper.looksAt
    exact List.mem_append_left _ (List.mem_filterMap.2 ⟨.tmp d, by simp [hop, Op.operands], rfl⟩)
  · intro i j oi oj d hi hj ki kj
    have := h5 i (lt_of_some hi) j (lt_of_some hj)
    simp [sOf, hi, hj, ki, kj] at this
    exact this
  · intro d hd
    obtain ⟨⟨i, _, hi⟩, _⟩ := by simpa only [List.any_eq_true] using h6 d hd
    obtain ⟨o, ho, hk⟩ := mOf_spec hi
    exact ⟨i, o, ho, hk⟩
  · intro d hd
    obtain ⟨_, ⟨i, _, hi⟩⟩ := by simpa only [List.any_eq_true] using h6 d hd
    obtain ⟨o, ho, hk⟩ := sOf_spec hi
    exact ⟨i, o, ho, hk⟩
  · intro j o s hj hd
    have := h7 j (lt_of_some hj)
    simp [dstOf, hj, hd] at this
    exact this
  · intro d hd
    simpa using h8 d hd

/-! listed or not -/
def cnt (listed : Array Bool) : Nat := (listed.toList.filter (! ·)).length
theorem cnt_zero {listed : Array Bool} (h : cnt listed = 0) (i : Nat) (hi : i < listed.size) : listed.getD i false = true := by
  unfold cnt at h
  have := List.eq_nil_of_length_eq_zero h
  rw [List.filter_eq_nil_iff] at this
  have h1 := this listed[i] (by simp [Array.getElem_mem_toList])
  simp [hi]
  simpa using h1
theorem cnt_set : ∀ (l : List Bool) (i : Nat), l[i]? = some false → ((l.set i true).filter (! ·)).length + 1 = (l.filter (! ·)).length
  | [], i, h => by simp at h
  | b :: l, 0, h => by simp at h; subst h; simp
  | b :: l, i + 1, h => by
    have := cnt_set l i (by simpa using h)
    cases b <;> simp <;> omega
theorem cnt_step {listed : Array Bool} {i : Nat} (h : listed.getD i true = false) : cnt (listed.setIfInBounds i true) + 1 = cnt listed := by
  unfold cnt
  rw [Array.toList_setIfInBounds]
  refine cnt_set _ _ ?_
  rcases Nat.lt_or_ge i listed.size with h' | h'
  · simp [h'] at h ⊢
    exact h
  · simp [Array.getElem?_eq_none h'] at h
end Go.Proofs.Ytkhbnklaglnfdaa
