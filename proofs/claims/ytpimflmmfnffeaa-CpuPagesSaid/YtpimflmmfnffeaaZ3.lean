/- Texts laid as one: Soft, Soft2, Soft3, Soft4, Inv. -/
import Derived.Test.YtpimflmmfnffeaaZ1
import Derived.StillTail
/- A region that draws its order, with calls that make memory, new variables and what is first stored into them: walked once, in the order of the text; the new variables lie in blocks of any number. -/
namespace Go.Proofs.Ytpimflmmfnffeaa
open Go.RowKit

/-- a new variable of the region: its type, how its block's number reads in its slot, what it holds first, and behind the store -/
structure Mk where
  t : TypeId
  val : Nat → Value
  c0 : Array Value
  c1 : Array Value
inductive Kd where
  | q
  | m (d : Nat)
  | s (d : Nat)
def kd (made : List Nat) (o : Oper) : Kd :=
  match o.op with
  | .alloc _ => match o.dst with
    | some d => if made.contains d then .m d else .q
    | none => .q
  | .store _ (.tmp d) _ => if made.contains d then .s d else .q
  | _ => .q
def isCall (o : Oper) : Bool := match o.op with
  | .call _ => true
  | _ => false
/-- operations that never enter a function -/
def plain (o : Oper) : Bool := match o.op with
  | .move _ | .assign _ | .pick _ _ _ | .build _ _ | .load _ _ | .binOp _ _ _ _ _ | .unOp _ _ _ | .convert _ _ _ | .slice _ _ _ _ _ | .fieldAddr _ _ _ | .field _ _ _ | .indexAddr _ _ _ | .index _ _ _ | .extract _ _ | .nilCheck _ => true
  | _ => false

section
variable {P : Program} {W : World}

/-- what is asked of a call (or of an operation that yields a value at once): what was there stays -/
def CUp (P : Program) (w : World) (v : Value) : Result Next → Prop
  | .ok (.enter f args) w' => w' = w ∧ Calls P f args w fun e w'' => e = .returned v ∧ Below w.heap.size w w''
  | .ok (.value u) w' => w' = w ∧ u = v
  | _ => False
def CallOk (P : Program) (W : World) (o : Oper) (a : Act) (v : Value) : Prop := ∀ n : Aft W, CUp P n.w v ((execOp a.eval o).run P n.w)
def QOk (P : Program) (W : World) (o : Oper) (a : Act) (v : Value) : Prop :=
  if isCall o then CallOk P W o a v else ∀ w, (∃ n : Aft W, w = n.w) → o.quietAt P a (fun w => ∃ n : Aft W, w = n.w) w v
def MOk (P : Program) (W : World) (o : Oper) (a : Act) (M : Mk) : Prop := ∀ n : Aft W, (execOp a.eval o).run P n.w = .ok (.value (M.val n.w.heap.size)) (n.w.alloc (.cells M.c0 M.t))
def SOk (P : Program) (o : Oper) (a : Act) (d : Nat) (M : Mk) : Prop :=
  ∀ (g : Nat) (w : World), Blk w g M.t M.c0 → ∃ w', (execOp (a.put (some d) (M.val g)).eval o).run P w = .ok .skip w' ∧ Blk w' g M.t M.c1 ∧ w.grownBy w' (some g)

/-- the walk, in the order of the text -/
def wpSh (P : Program) (ops : Array Oper) (W : World) (made : List Nat) (D : Nat → Mk) (Q : Act → Prop) : List Oper → Act → Prop
  | [], a => Q a
  | o :: rest, a =>
    match kd made o with
    | .q => if Region.wanted o (yielded ops a.tmps) = true then ∃ v, QOk P W o a v ∧ wpSh P ops W made D Q rest (a.put o.dst v) else wpSh P ops W made D Q rest (a.put o.dst undef)
    | .m d => MOk P W o a (D d) ∧ wpSh P ops W made D Q rest (a.put o.dst undef)
    | .s d => SOk P o a d (D d) ∧ wpSh P ops W made D Q rest (a.put o.dst undef)

/-- what the walk shows of one operation -/
def OkAt (P : Program) (ops : Array Oper) (W : World) (made : List Nat) (D : Nat → Mk) (o : Oper) (a : Act) (v : Value) : Prop :=
  match kd made o with
  | .q => (Region.wanted o (yielded ops a.tmps) = true ∧ QOk P W o a v) ∨ (Region.wanted o (yielded ops a.tmps) = false ∧ v = undef)
  | .m d => MOk P W o a (D d)
  | .s d => SOk P o a d (D d)

def frs (a : Act) (l : List Oper) (vals : Nat → Value) : Nat → Act
  | 0 => a
  | j + 1 => match l[j]? with
    | some o => (frs a l vals j).put o.dst (vals j)
    | none => frs a l vals j
theorem frs_cons (a : Act) (o : Oper) (l : List Oper) (vals : Nat → Value) : ∀ j, frs a (o :: l) vals (j + 1) = frs (a.put o.dst (vals 0)) l (fun i => vals (i + 1)) j
  | 0 => rfl
  | j + 1 => by
    rw [frs]
    have : (o :: l)[j + 1]? = l[j]? := rfl
    rw [this, frs_cons a o l vals j]
    rfl

theorem sh_ext {ops : Array Oper} {made : List Nat} {D : Nat → Mk} {Q : Act → Prop} : ∀ (l : List Oper) (a : Act), wpSh P ops W made D Q l a →
    ∃ vals : Nat → Value, (∀ j o, l[j]? = some o → OkAt P ops W made D o (frs a l vals j) (vals j)) ∧ Q (frs a l vals l.length)
  | [], a, h => ⟨fun _ => undef, fun j o hj => by simp at hj, h⟩
  | o :: l, a, h => by
    have key : ∀ v, OkAt P ops W made D o a v → wpSh P ops W made D Q l (a.put o.dst v) → ∃ vals : Nat → Value, (∀ j o', (o :: l)[j]? = some o' → OkAt P ops W made D o' (frs a (o :: l) vals j) (vals j)) ∧ Q (frs a (o :: l) vals (o :: l).length) := by
      intro v hv hr
      obtain ⟨vs, h1, h2⟩ := sh_ext l _ hr
      refine ⟨fun i => match i with | 0 => v | i + 1 => vs i, fun j o' hj => ?_, ?_⟩
      · cases j with
        | zero =>
          simp at hj
          subst hj
          exact hv
        | succ j =>
          rw [frs_cons]
          exact h1 j o' hj
      · rw [List.length_cons, frs_cons]
        exact h2
    unfold wpSh at h
    cases hk : kd made o with
    | q =>
      simp only [hk] at h
      by_cases hw : Region.wanted o (yielded ops a.tmps) = true
      · rw [if_pos hw] at h
        obtain ⟨v, hv, hr⟩ := h
        exact key v (by unfold OkAt; rw [hk]; exact .inl ⟨hw, hv⟩) hr
      · rw [if_neg hw] at h
        exact key undef (by unfold OkAt; rw [hk]; exact .inr ⟨by simpa using hw, rfl⟩) h
    | m d =>
      simp only [hk] at h
      exact key undef (by unfold OkAt; rw [hk]; exact h.1) h.2
    | s d =>
      simp only [hk] at h
      exact key undef (by unfold OkAt; rw [hk]; exact h.1) h.2

/-! frames that agree -/
theorem eval_agree {a b : Act} {k : Nat} (h : a.tmps[k]? = b.tmps[k]?) : a.eval (.tmp k) = b.eval (.tmp k) := by
  simp [Act.eval, Array.getD_eq_getD_getElem?, h]
theorem exec_agree {a b : Act} {ops : Array Oper} (o : Oper) (hs : ∀ cs b, o.op ≠ .select cs b) (h : ∀ k ∈ o.looksAt ops, a.tmps[k]? = b.tmps[k]?) : execOp a.eval o = execOp b.eval o := by
  refine execOp_congr o hs fun x hx => ?_
  cases x with
  | tmp k => exact eval_agree (h k (by unfold Oper.looksAt; exact List.mem_append_left _ (List.mem_filterMap.2 ⟨.tmp k, by simpa using hx, rfl⟩)))
  | _ => rfl
theorem want_agree {a b : Act} {ops : Array Oper} (o : Oper) (h : ∀ k ∈ o.looksAt ops, a.tmps[k]? = b.tmps[k]?) : Region.wanted o (yielded ops a.tmps) = Region.wanted o (yielded ops b.tmps) := by
  unfold Region.wanted
  cases hg : o.guard with
  | none => rfl
  | some gb =>
    obtain ⟨g, bb⟩ := gb
    have : yielded ops a.tmps g = yielded ops b.tmps g := by
      unfold yielded
      cases hd : (ops[g]?).bind (·.dst) with
      | none => rfl
      | some k =>
        have hk : k ∈ o.looksAt ops := by unfold Oper.looksAt; simp [hg, hd]
        simp only [Option.bind_some, h k hk]
    simp only [this]

theorem put_get (a : Act) (dst : Option Nat) (v : Value) (k : Nat) (h : dst ≠ some k) : (a.put dst v).tmps[k]? = a.tmps[k]? := by
  cases dst with
  | none => rfl
  | some d =>
    have : d ≠ k := fun e => h (by rw [e])
    simp [Act.put, Array.getElem?_setIfInBounds_ne this]
theorem put_size (a : Act) (dst : Option Nat) (v : Value) : (a.put dst v).tmps.size = a.tmps.size := by cases dst <;> simp [Act.put]
theorem put_defs (a : Act) (dst : Option Nat) (v : Value) : (a.put dst v).defers = a.defers := by cases dst <;> rfl
theorem put_at (a : Act) (k : Nat) (v : Value) (h : k < a.tmps.size) : (a.put (some k) v).tmps[k]? = some v := by simp [Act.put, h]

theorem frs_size (a : Act) (l : List Oper) (vals : Nat → Value) : ∀ n, (frs a l vals n).tmps.size = a.tmps.size ∧ (frs a l vals n).defers = a.defers
  | 0 => ⟨rfl, rfl⟩
  | n + 1 => by
    unfold frs
    split
    · exact ⟨by rw [put_size]; exact (frs_size a l vals n).1, by rw [put_defs]; exact (frs_size a l vals n).2⟩
    · exact frs_size a l vals n
theorem frs_old (a : Act) (l : List Oper) (vals : Nat → Value) (k : Nat) : ∀ n, (∀ j o, j < n → l[j]? = some o → o.dst ≠ some k) → (frs a l vals n).tmps[k]? = a.tmps[k]?
  | 0, _ => rfl
  | n + 1, h => by
    unfold frs
    split
    · rename_i o ho
      rw [put_get _ _ _ _ (h n o (by omega) ho)]
      exact frs_old a l vals k n fun j o' hj ho' => h j o' (by omega) ho'
    · exact frs_old a l vals k n fun j o' hj ho' => h j o' (by omega) ho'
theorem frs_new (a : Act) (l : List Oper) (vals : Nat → Value) (k i : Nat) (oi : Oper) (hi : l[i]? = some oi) (hd : oi.dst = some k) (hk : k < a.tmps.size)
    (hdist : ∀ j o, l[j]? = some o → j ≠ i → o.dst ≠ some k) : ∀ n, i < n → (frs a l vals n).tmps[k]? = some (vals i)
  | 0, h => by omega
  | n + 1, h => by
    unfold frs
    by_cases hn : n = i
    · subst hn
      simp only [hi, hd]
      exact put_at _ _ _ (by rw [(frs_size a l vals n).1]; exact hk)
    · split
      · rename_i o ho
        rw [put_get _ _ _ _ (hdist n o ho hn)]
        exact frs_new a l vals k i oi hi hd hk hdist n (by omega)
      · exact frs_new a l vals k i oi hi hd hk hdist n (by omega)
end
end Go.Proofs.Ytpimflmmfnffeaa

/- The law of a region that draws its order (see Soft): one walk, in the order of the text, serves every order. -/
namespace Go.Proofs.Ytpimflmmfnffeaa
open Go.RowKit

def dstOf (ops : Array Oper) (j : Nat) : Option Nat := (ops[j]?).bind (·.dst)
def sOf (made : List Nat) (ops : Array Oper) (i : Nat) : Option Nat := match ops[i]? with
  | some o => match kd made o with
    | .s d => some d
    | _ => none
  | none => none
def mOf (made : List Nat) (ops : Array Oper) (i : Nat) : Option Nat := match ops[i]? with
  | some o => match kd made o with
    | .m d => some d
    | _ => none
  | none => none
def kindB (made : List Nat) (ops : Array Oper) (i : Nat) : Bool := match ops[i]? with
  | some o => match kd made o with
    | .q => (o.looksAt ops).all (fun k => !made.contains k) && (match o.dst with | some d => !made.contains d | none => true) && (plain o || isCall o)
    | .m _ => o.guard.isNone && (o.looksAt ops).all (fun k => !made.contains k)
    | .s d => o.guard.isNone && o.dst.isNone && (o.looksAt ops).all (fun k => k == d || !made.contains k) && (List.range ops.size).any (fun j => mOf made ops j == some d && Region.waitsFor .any ops i j)
  | none => true
def lookB (ops : Array Oper) (i : Nat) : Bool := match ops[i]? with
  | some o => (o.looksAt ops).all fun k => (List.range ops.size).all fun j => dstOf ops j != some k || (decide (j < i) && Region.waitsFor .any ops i j) || (decide (i < j) && Region.waitsFor .any ops j i)
  | none => true
def backB (ops : Array Oper) (i : Nat) : Bool := match ops[i]? with
  | some o => o.after.all fun e => !Region.binds .any e || decide (e.on < i)
  | none => true
/-- what is asked of a region's text -/
def softB (made : List Nat) (N : Nat) (ops : Array Oper) : Bool :=
  Region.noSelect ops &&
  ((List.range ops.size).all fun i => (List.range ops.size).all fun j => i == j || (dstOf ops i).isNone || dstOf ops i != dstOf ops j) &&
  ((List.range ops.size).all fun i => backB ops i) &&
  ((List.range ops.size).all fun i => lookB ops i) &&
  ((List.range ops.size).all fun i => kindB made ops i) &&
  ((List.range ops.size).all fun i => (List.range ops.size).all fun j => i == j || (sOf made ops i).isNone || sOf made ops i != sOf made ops j) &&
  (made.all fun d => (List.range ops.size).any (fun i => mOf made ops i == some d) && (List.range ops.size).any (fun i => sOf made ops i == some d)) &&
  ((List.range ops.size).all fun j => match dstOf ops j with | some s => decide (s < N) | none => true) &&
  (made.all fun d => decide (d < N))

structure SoftOk (made : List Nat) (N : Nat) (ops : Array Oper) : Prop where
  sel : ∀ (j : Nat) (o : Oper) cs b, ops[j]? = some o → o.op ≠ .select cs b
  dist : ∀ (i j : Nat) (oi oj : Oper) (k : Nat), ops[i]? = some oi → ops[j]? = some oj → oi.dst = some k → oj.dst = some k → i = j
  back : ∀ (i : Nat) (o : Oper), ops[i]? = some o → ∀ e ∈ o.after, Region.binds .any e = true → e.on < i
  look : ∀ (i j : Nat) (oi oj : Oper) (k : Nat), ops[i]? = some oi → ops[j]? = some oj → k ∈ oi.looksAt ops → oj.dst = some k → (j < i ∧ Region.waitsFor .any ops i j = true) ∨ (i < j ∧ Region.waitsFor .any ops j i = true)
  kq : ∀ (i : Nat) (o : Oper), ops[i]? = some o → kd made o = .q → (∀ k ∈ o.looksAt ops, k ∉ made) ∧ (∀ d, o.dst = some d → d ∉ made) ∧ (plain o = true ∨ isCall o = true)
  km : ∀ (i : Nat) (o : Oper) (d : Nat), ops[i]? = some o → kd made o = .m d → o.dst = some d ∧ d ∈ made ∧ o.guard = none ∧ (∀ k ∈ o.looksAt ops, k ∉ made)
  ks : ∀ (i : Nat) (o : Oper) (d : Nat), ops[i]? = some o → kd made o = .s d → d ∈ made ∧ d ∈ o.looksAt ops ∧ o.guard = none ∧ o.dst = none ∧ (∀ k ∈ o.looksAt ops, k = d ∨ k ∉ made) ∧ ∃ (j : Nat) (oj : Oper), ops[j]? = some oj ∧ kd made oj = .m d ∧ Region.waitsFor .any ops i j = true
  ones : ∀ (i j : Nat) (oi oj : Oper) (d : Nat), ops[i]? = some oi → ops[j]? = some oj → kd made oi = .s d → kd made oj = .s d → i = j
  hasM : ∀ d ∈ made, ∃ (j : Nat) (oj : Oper), ops[j]? = some oj ∧ kd made oj = .m d
  hasS : ∀ d ∈ made, ∃ (j : Nat) (oj : Oper), ops[j]? = some oj ∧ kd made oj = .s d
  size : ∀ (j : Nat) (o : Oper) (s : Nat), ops[j]? = some o → o.dst = some s → s < N
  msize : ∀ d ∈ made, d < N

theorem mOf_spec {made : List Nat} {ops : Array Oper} {i d : Nat} (h : (mOf made ops i == some d) = true) : ∃ o, ops[i]? = some o ∧ kd made o = .m d := by
  unfold mOf at h
  cases ho : ops[i]? with
  | none => simp [ho] at h
  | some o =>
    cases hk : kd made o with
    | m d' => simp [ho, hk] at h; subst h; exact ⟨o, rfl, hk⟩
    | q => simp [ho, hk] at h
    | s d' => simp [ho, hk] at h
theorem sOf_spec {made : List Nat} {ops : Array Oper} {i d : Nat} (h : (sOf made ops i == some d) = true) : ∃ o, ops[i]? = some o ∧ kd made o = .s d := by
  unfold sOf at h
  cases ho : ops[i]? with
  | none => simp [ho] at h
  | some o =>
    cases hk : kd made o with
    | s d' => simp [ho, hk] at h; subst h; exact ⟨o, rfl, hk⟩
    | q => simp [ho, hk] at h
    | m d' => simp [ho, hk] at h
theorem kd_m {made : List Nat} {o : Oper} {d : Nat} (h : kd made o = .m d) : o.dst = some d ∧ d ∈ made := by
  unfold kd at h
  split at h
  · split at h
    · split at h
      · injection h with h; subst h; rename_i hd hm; exact ⟨hd, by simpa using hm⟩
      · cases h
    · cases h
  · split at h <;> cases h
  · cases h
theorem kd_s {made : List Nat} {o : Oper} {d : Nat} (h : kd made o = .s d) : d ∈ made ∧ ∃ t x, o.op = .store t (.tmp d) x := by
  unfold kd at h
  split at h
  · split at h
    · split at h <;> cases h
    · cases h
  · rename_i t d' x hop
    split at h
    · injection h with h; subst h; rename_i hm; exact ⟨by simpa using hm, t, x, hop⟩
    · cases h
  · cases h
theorem lt_of_some {ops : Array Oper} {i : Nat} {o : Oper} (h : ops[i]? = some o) : i < ops.size := (Array.getElem?_eq_some_iff.1 h).1

theorem soft_spec {made : List Nat} {N : Nat} {ops : Array Oper} (h : softB made N ops = true) : SoftOk made N ops := by
  simp only [softB, Bool.and_eq_true, List.all_eq_true, List.mem_range] at h
  obtain ⟨⟨⟨⟨⟨⟨⟨⟨h0, h1⟩, h2⟩, h3⟩, h4⟩, h5⟩, h6⟩, h7⟩, h8⟩ := h
  refine ⟨Region.noSelect_spec h0, ?_, ?_, ?_, ?_, ?_, ?_, ?_, ?_, ?_, ?_, ?_⟩
  · intro i j oi oj k hi hj di dj
    have := h1 i (lt_of_some hi) j (lt_of_some hj)
    simp [dstOf, hi, hj, di, dj] at this
    exact this
  · intro i o hi e he hb
    have := h2 i (lt_of_some hi)
    unfold backB at this
    rw [hi] at this
    have := Array.all_eq_true'.1 this e he
    simp [hb] at this
    exact this
  · intro i j oi oj k hi hj hk dj
    have := h3 i (lt_of_some hi)
    unfold lookB at this
    rw [hi] at this
    have := List.all_eq_true.1 (List.all_eq_true.1 this k hk) j (List.mem_range.2 (lt_of_some hj))
    simp [dstOf, hj, dj] at this
    exact this
  · intro i o hi hk
    have := h4 i (lt_of_some hi)
    unfold kindB at this
    rw [hi] at this
    simp only [hk, Bool.and_eq_true, List.all_eq_true, Bool.or_eq_true] at this
    refine ⟨fun k hk => by simpa using this.1.1 k hk, fun d hd => ?_, this.2⟩
    have h9 := this.1.2
    rw [hd] at h9
    simpa using h9
  · intro i o d hi hk
    have := h4 i (lt_of_some hi)
    unfold kindB at this
    rw [hi] at this
    simp only [hk, Bool.and_eq_true, List.all_eq_true, Option.isNone_iff_eq_none] at this
    exact ⟨(kd_m hk).1, (kd_m hk).2, this.1, fun k hk => by simpa using this.2 k hk⟩
  · intro i o d hi hk
    have := h4 i (lt_of_some hi)
    unfold kindB at this
    rw [hi] at this
    simp only [hk, Bool.and_eq_true, List.all_eq_true, Option.isNone_iff_eq_none, List.any_eq_true] at this
    obtain ⟨⟨⟨a1, a2⟩, a3⟩, j, hj, a4, a5⟩ := this
    obtain ⟨hm, t, x, hop⟩ := kd_s hk
    obtain ⟨oj, hoj, hkj⟩ := mOf_spec a4
    refine ⟨hm, ?_, a1, a2, fun k hk => by simpa using a3 k hk, j, oj, hoj, hkj, a5⟩
    unfold Oper.looksAt
    exact List.mem_append_left _ (List.mem_filterMap.2 ⟨.tmp d, by simp [hop, Op.operands], rfl⟩)
  · intro i j oi oj d hi hj ki kj
    have := h5 i (lt_of_some hi) j (lt_of_some hj)
    simp [sOf, hi, hj, ki, kj] at this
    exact this
  · intro d hd
    obtain ⟨⟨i, _, hi⟩, _⟩ := by simpa only [List.any_eq_true] using h6 d hd
    obtain ⟨o, ho, hk⟩ := mOf_spec hi
    exact ⟨i, o, ho, hk⟩
  · intro d hd
    obtain ⟨_, ⟨i, _, hi⟩⟩ := by simpa only [List.any_eq_true] using h6 d hd
    obtain ⟨o, ho, hk⟩ := sOf_spec hi
    exact ⟨i, o, ho, hk⟩
  · intro j o s hj hd
    have := h7 j (lt_of_some hj)
    simp [dstOf, hj, hd] at this
    exact this
  · intro d hd
    simpa using h8 d hd

/-! listed or not -/
def cnt (listed : Array Bool) : Nat := (listed.toList.filter (! ·)).length
theorem cnt_zero {listed : Array Bool} (h : cnt listed = 0) (i : Nat) (hi : i < listed.size) : listed.getD i false = true := by
  unfold cnt at h
  have := List.eq_nil_of_length_eq_zero h
  rw [List.filter_eq_nil_iff] at this
  have h1 := this listed[i] (by simp [Array.getElem_mem_toList])
  simp [hi]
  simpa using h1
theorem cnt_set : ∀ (l : List Bool) (i : Nat), l[i]? = some false → ((l.set i true).filter (! ·)).length + 1 = (l.filter (! ·)).length
  | [], i, h => by simp at h
  | b :: l, 0, h => by simp at h; subst h; simp
  | b :: l, i + 1, h => by
    have := cnt_set l i (by simpa using h)
    cases b <;> simp <;> omega
theorem cnt_step {listed : Array Bool} {i : Nat} (h : listed.getD i true = false) : cnt (listed.setIfInBounds i true) + 1 = cnt listed := by
  unfold cnt
  rw [Array.toList_setIfInBounds]
  refine cnt_set _ _ ?_
  rcases Nat.lt_or_ge i listed.size with h' | h'
  · simp [h'] at h ⊢
    exact h
  · simp [Array.getElem?_eq_none h'] at h
end Go.Proofs.Ytpimflmmfnffeaa

/- The law of a region that draws its order (see Soft, Soft2): what holds along every order. -/
namespace Go.Proofs.Ytpimflmmfnffeaa
open Go.RowKit

section
variable {P : Program} {W : World} {made : List Nat} {D : Nat → Mk} {ops : Array Oper} {l : List Oper} {a0 : Act} {vals : Nat → Value} {N : Nat}

def rv (made : List Nat) (D : Nat → Mk) (vals : Nat → Value) (γ : Nat → Nat) (j : Nat) (o : Oper) : Value := match kd made o with
  | .m d => (D d).val (γ d)
  | _ => vals j
/-- has a new variable been made? -/
def mL (made : List Nat) (ops : Array Oper) (listed : Array Bool) (d : Nat) : Prop := ∃ (j : Nat) (o : Oper), ops[j]? = some o ∧ kd made o = .m d ∧ listed.getD j false = true

structure SInv (W : World) (made : List Nat) (D : Nat → Mk) (ops : Array Oper) (a0 : Act) (vals : Nat → Value) (listed : Array Bool) (a : Act) (w : World) (γ : Nat → Nat) (σ : Nat → Bool) : Prop where
  size : listed.size = ops.size
  closed : ∀ (j : Nat) (oj : Oper), ops[j]? = some oj → listed.getD j false = true → ∀ e ∈ oj.after, Region.binds .any e = true → listed.getD e.on false = true
  fsize : a.tmps.size = a0.tmps.size
  defs : a.defers = a0.defers
  new : ∀ (j : Nat) (o : Oper) (s : Nat), ops[j]? = some o → o.dst = some s → listed.getD j false = true → a.tmps[s]? = some (rv made D vals γ j o)
  old : ∀ s : Nat, (∀ (j : Nat) (o : Oper), ops[j]? = some o → listed.getD j false = true → o.dst ≠ some s) → a.tmps[s]? = a0.tmps[s]?
  below : Below W.heap.size W w
  mem : ∀ d ∈ made, mL made ops listed d → W.heap.size ≤ γ d ∧ Blk w (γ d) (D d).t (if σ d then (D d).c1 else (D d).c0)
  inj : ∀ d ∈ made, ∀ d' ∈ made, mL made ops listed d → mL made ops listed d' → γ d = γ d' → d = d'
  sig : ∀ d, σ d = true → ∃ (j : Nat) (o : Oper), ops[j]? = some o ∧ kd made o = .s d ∧ listed.getD j false = true
  sig' : ∀ (d j : Nat) (o : Oper), ops[j]? = some o → kd made o = .s d → listed.getD j false = true → σ d = true

theorem waits_mem {md : Region.Mode} {i j : Nat} {o : Oper} (hi : ops[i]? = some o) (h : Region.waitsFor md ops i j = true) : ∃ e ∈ o.after, Region.binds md e = true ∧ e.on = j := by
  obtain ⟨oi, ho, he⟩ := Region.waitsFor_spec h
  rw [hi] at ho
  injection ho with ho
  subst ho
  exact he

/-- what an operation that comes up looks at is as in the walk -/
theorem soft_agree (ok : SoftOk made N l.toArray) (hN : a0.tmps.size = N) {listed : Array Bool} {a : Act} {w : World} {γ : Nat → Nat} {σ : Nat → Bool} (inv : SInv W made D l.toArray a0 vals listed a w γ σ)
    {i : Nat} {o : Oper} (hi : l.toArray[i]? = some o) (hun : listed.getD i true = false) (hall : ∀ e ∈ o.after, Region.binds .any e = true → listed.getD e.on false = true) {k : Nat} (hk : k ∈ o.looksAt l.toArray) (hkm : k ∉ made) :
    a.tmps[k]? = (frs a0 l vals i).tmps[k]? := by
  have hli : ∀ j : Nat, l.toArray[j]? = l[j]? := fun j => List.getElem?_toArray
  by_cases hex : ∃ (j : Nat) (oj : Oper), l.toArray[j]? = some oj ∧ oj.dst = some k
  · obtain ⟨j, oj, hj, dj⟩ := hex
    rcases ok.look i j o oj k hi hj hk dj with ⟨hlt, hw⟩ | ⟨hlt, hw⟩
    · obtain ⟨e, he, hb, hon⟩ := waits_mem hi hw
      have hlj := hall e he hb
      rw [hon] at hlj
      rw [inv.new j oj k hj dj hlj]
      have hrv : rv made D vals γ j oj = vals j := by
        unfold rv
        cases hkd : kd made oj with
        | m d => have := kd_m hkd; rw [dj] at this; injection this.1 with h1; subst h1; exact absurd this.2 hkm
        | q => rfl
        | s d => rfl
      rw [hrv, frs_new a0 l vals k j oj (by rw [← hli]; exact hj) dj (by rw [hN]; exact ok.size j oj k hj dj) (fun j' o' hj' hne hd' => hne (ok.dist j' j o' oj k (by rw [hli]; exact hj') hj hd' dj)) i hlt]
    · have hnl : listed.getD j false = true → False := fun hl => by
        obtain ⟨e, he, hb, hon⟩ := waits_mem hj hw
        have := inv.closed j oj hj hl e he hb
        rw [hon, getD_both hun] at this
        cases this
      rw [inv.old k (fun j' o' hj' hl' hd' => by have := ok.dist j' j o' oj k hj' hj hd' dj; subst this; exact hnl hl'),
        frs_old a0 l vals k i (fun j' o' hlt' hj' hd' => by have := ok.dist j' j o' oj k (by rw [hli]; exact hj') hj hd' dj; omega)]
  · have hno : ∀ (j : Nat) (oj : Oper), l.toArray[j]? = some oj → oj.dst ≠ some k := fun j oj hj hd => hex ⟨j, oj, hj, hd⟩
    rw [inv.old k (fun j oj hj _ => hno j oj hj), frs_old a0 l vals k i (fun j oj _ hj => hno j oj (by rw [hli]; exact hj))]

/-- one more is listed: what stays true of the frame -/
theorem soft_frame (ok : SoftOk made N ops) (hN : a0.tmps.size = N) {listed : Array Bool} {a : Act} {w : World} {γ γ' : Nat → Nat} {σ : Nat → Bool} (inv : SInv W made D ops a0 vals listed a w γ σ)
    {i : Nat} {o : Oper} (hi : ops[i]? = some o) (hun : listed.getD i true = false) (hall : ∀ e ∈ o.after, Region.binds .any e = true → listed.getD e.on false = true) {v : Value} (hv : v = rv made D vals γ' i o)
    (hγ : ∀ (j : Nat) (oj : Oper), ops[j]? = some oj → listed.getD j false = true → rv made D vals γ' j oj = rv made D vals γ j oj) {w' : World} {σ' : Nat → Bool} (hB : Below W.heap.size W w')
    (hmem : ∀ d ∈ made, mL made ops (listed.setIfInBounds i true) d → W.heap.size ≤ γ' d ∧ Blk w' (γ' d) (D d).t (if σ' d then (D d).c1 else (D d).c0))
    (hinj : ∀ d ∈ made, ∀ d' ∈ made, mL made ops (listed.setIfInBounds i true) d → mL made ops (listed.setIfInBounds i true) d' → γ' d = γ' d' → d = d')
    (hsig : ∀ d, σ' d = true → ∃ (j : Nat) (o : Oper), ops[j]? = some o ∧ kd made o = .s d ∧ (listed.setIfInBounds i true).getD j false = true)
    (hsig' : ∀ (d j : Nat) (o : Oper), ops[j]? = some o → kd made o = .s d → (listed.setIfInBounds i true).getD j false = true → σ' d = true) :
    SInv W made D ops a0 vals (listed.setIfInBounds i true) (a.put o.dst v) w' γ' σ' := by
  have hsz : i < listed.size := by rw [inv.size]; exact lt_of_some hi
  refine ⟨by simp [inv.size], fun j oj hj hl e he hb => ?_, by rw [put_size]; exact inv.fsize, by rw [put_defs]; exact inv.defs, fun j oj s hj hd hl => ?_, fun s hs => ?_, hB, hmem, hinj, hsig, hsig'⟩
  · by_cases hij : i = j
    · subst hij
      rw [hi] at hj
      injection hj with hj
      subst hj
      exact getD_set_true (hall e he hb)
    · rw [getD_set_ne false hij] at hl
      exact getD_set_true (inv.closed j oj hj hl e he hb)
  · by_cases hij : i = j
    · subst hij
      rw [hi] at hj
      injection hj with hj
      subst hj
      rw [hd, put_at _ _ _ (by rw [inv.fsize, hN]; exact ok.size i o s hi hd), hv]
    · rw [getD_set_ne false hij] at hl
      rw [put_get _ _ _ _ (fun h => hij (ok.dist i j o oj s hi hj h hd)), inv.new j oj s hj hd hl, hγ j oj hj hl]
  · have h1 : o.dst ≠ some s := hs i o hi (by simp [hsz])
    rw [put_get _ _ _ _ h1]
    exact inv.old s fun j oj hj hl => hs j oj hj (getD_set_true hl)

theorem mL_other {listed : Array Bool} {i : Nat} {o : Oper} (hi : ops[i]? = some o) (hk : ∀ d, kd made o ≠ .m d) {d : Nat} (h : mL made ops (listed.setIfInBounds i true) d) : mL made ops listed d := by
  obtain ⟨j, oj, hj, hkj, hl⟩ := h
  refine ⟨j, oj, hj, hkj, ?_⟩
  by_cases hij : i = j
  · subst hij
    rw [hi] at hj
    injection hj with hj
    subst hj
    exact absurd hkj (hk d)
  · rw [getD_set_ne false hij] at hl
    exact hl
theorem sig_other {listed : Array Bool} {i : Nat} {o : Oper} (hi : ops[i]? = some o) (hk : ∀ d, kd made o ≠ .s d) {j d : Nat} {oj : Oper} (hj : ops[j]? = some oj) (hkj : kd made oj = .s d) (hl : (listed.setIfInBounds i true).getD j false = true) : listed.getD j false = true := by
  by_cases hij : i = j
  · subst hij
    rw [hi] at hj
    injection hj with hj
    subst hj
    exact absurd hkj (hk d)
  · rw [getD_set_ne false hij] at hl
    exact hl

theorem plain_not_enter {o : Oper} (h : plain o = true) (ρ : Operand → Value) (w w' : World) (f : FuncId) (args : Array Value) : (execOp ρ o).run P w ≠ .ok (.enter f args) w' := by
  have key : ∀ s : Sem Value, (do let x ← s; pure (Next.value x) : Sem Next).run P w ≠ .ok (.enter f args) w' := by
    intro s he
    simp only [Sem.run_bind] at he
    cases hs : s.run P w <;> simp [hs, Sem.run_pure] at he
  obtain ⟨dst, op, ty, pos, after, guard⟩ := o
  cases op <;> simp only [plain] at h <;> (try cases h) <;> simp only [execOp]
  case nilCheck x =>
    have ne_bind : ∀ {α : Type} (s : Sem α) (k : α → Sem Next), (∀ a w, (k a).run P w ≠ .ok (.enter f args) w') → ∀ w, (s >>= k).run P w ≠ .ok (.enter f args) w' := by
      intro α s k hk w he
      simp only [Sem.run_bind] at he
      cases hs : s.run P w with
      | ok a w1 => rw [hs] at he; exact hk a w1 he
      | halt x w1 => rw [hs] at he; cases he
    have ne_val : ∀ v w, (pure (Next.value v) : Sem Next).run P w ≠ .ok (.enter f args) w' := fun v w he => by simp [Sem.run_pure] at he
    have ne_map : ∀ {α : Type} (s : Sem α) (v : Value) w, ((fun _ => Next.value v) <$> s).run P w ≠ .ok (.enter f args) w' := fun {α} s v w he => by
      have h2 := ne_bind s (fun _ => pure (Next.value v)) (fun _ w => ne_val v w) w
      rw [map_eq_pure_bind] at he
      exact h2 he
    generalize ρ x = v
    split
    all_goals first
      | exact ne_val _ _
      | (intro he; simp [runtimePanic] at he; done)
      | skip
    split
    all_goals first
      | exact ne_val _ _
      | (intro he; simp [runtimePanic] at he; done)
      | skip
    refine ne_bind _ _ (fun a w1 => ne_bind _ _ (fun b w2 => ?_) w1) w
    split
    all_goals first
      | exact ne_val _ _
      | exact ne_bind _ _ (fun _ w3 => ne_val _ w3) _
      | exact ne_map _ _ _
  case pick c x y =>
    intro he
    simp only [Sem.run_bind] at he
    cases hs : (asBool (ρ c)).run P w <;> simp [hs, Sem.run_pure] at he
  all_goals first | exact key _ | (intro he; simp [Sem.run_pure] at he; done)
end
end Go.Proofs.Ytpimflmmfnffeaa

/- The law of a region that draws its order (see Soft, Soft2, Soft3): every order. -/
namespace Go.Proofs.Ytpimflmmfnffeaa
open Go.RowKit

section
variable {P : Program} {W : World} {made : List Nat} {D : Nat → Mk} {l : List Oper} {a0 : Act} {vals : Nat → Value} {N : Nat} {Q : Exit → Act → World → Prop}

theorem soft_any (ok : SoftOk made N l.toArray) (hN : a0.tmps.size = N) (hok : ∀ (j : Nat) (o : Oper), l[j]? = some o → OkAt P l.toArray W made D o (frs a0 l vals j) (vals j))
    (hQ : ∀ (listed : Array Bool) (a : Act) (w : World) (γ : Nat → Nat) (σ : Nat → Bool), SInv W made D l.toArray a0 vals listed a w γ σ → (∀ i, i < listed.size → listed.getD i false = true) → Q .normal a w) :
    ∀ (fuel : Nat) (listed : Array Bool) (a : Act) (w : World) (γ : Nat → Nat) (σ : Nat → Bool), SInv W made D l.toArray a0 vals listed a w γ σ → cnt listed = fuel → wpAny P .any l.toArray Q fuel listed a w := by
  intro fuel
  induction fuel with
  | zero =>
    intro listed a w γ σ inv hc
    have hall : ∀ i, i < listed.size → listed.getD i false = true := fun i hi => cnt_zero hc i hi
    refine ⟨?_, hQ listed a w γ σ inv hall⟩
    rw [List.eq_nil_iff_forall_not_mem]
    intro i hi
    obtain ⟨h1, o, ho, _⟩ := mem_ready.1 hi
    have h2 := hall i (by rw [inv.size]; exact lt_of_some ho)
    rw [getD_both h1] at h2
    cases h2
  | succ fuel ih =>
    intro listed a w γ σ inv hc
    constructor
    · intro hr
      exfalso
      -- the first that is not listed may come up
      have hex : ∃ i, i < listed.size ∧ listed.getD i false = false := by
        refine Classical.byContradiction fun hne => ?_
        have hall : ∀ i, i < listed.size → listed.getD i false = true := fun i hi => by
          cases h : listed.getD i false with
          | true => rfl
          | false => exact absurd ⟨i, hi, h⟩ hne
        have : cnt listed = 0 := by
          unfold cnt
          rw [List.length_eq_zero_iff, List.filter_eq_nil_iff]
          intro b hb
          obtain ⟨i, hi, he⟩ := List.mem_iff_getElem.1 hb
          have h1 := hall i (by simpa using hi)
          have hi' : i < listed.size := by simpa using hi
          simp [hi'] at h1
          simp at he
          rw [← he, h1]
          simp
        omega
      obtain ⟨i0, hi0, hu0⟩ := hex
      have hmin : ∃ i, i < listed.size ∧ listed.getD i false = false ∧ ∀ j, j < i → listed.getD j false = true := by
        induction i0 using Nat.strongRecOn with
        | _ i0 ihm =>
          by_cases h : ∃ j, j < i0 ∧ listed.getD j false = false
          · obtain ⟨j, hj, hju⟩ := h
            exact ihm j hj (by omega) hju
          · refine ⟨i0, hi0, hu0, fun j hj => ?_⟩
            cases hjv : listed.getD j false with
            | true => rfl
            | false => exact absurd ⟨j, hj, hjv⟩ h
      obtain ⟨i, hi, hu, hlt⟩ := hmin
      have hil : i < l.toArray.size := by rw [← inv.size]; exact hi
      have : i ∈ Region.ready .any l.toArray listed := mem_ready.2 ⟨getD_in hi hu, l.toArray[i], by simp [Array.getElem?_eq_getElem hil], fun e he hb => hlt _ (ok.back i _ (Array.getElem?_eq_getElem hil) e he hb)⟩
      rw [hr] at this
      cases this
    · intro i hi
      obtain ⟨hun, o, ho, hall⟩ := mem_ready.1 hi
      have hol : l[i]? = some o := by rw [← List.getElem?_toArray]; exact ho
      have hcn : cnt (listed.setIfInBounds i true) = fuel := by have := cnt_step hun; omega
      have hO := hok i o hol
      have agree : ∀ k ∈ o.looksAt l.toArray, k ∉ made → a.tmps[k]? = (frs a0 l vals i).tmps[k]? := fun k hk hkm => soft_agree ok hN inv ho hun hall hk hkm
      unfold wpOp
      simp only [ho]
      unfold OkAt at hO
      cases hk : kd made o with
      | q =>
        simp only [hk] at hO
        obtain ⟨q1, q2, q3⟩ := ok.kq i o ho hk
        have hag : ∀ k ∈ o.looksAt l.toArray, a.tmps[k]? = (frs a0 l vals i).tmps[k]? := fun k h => agree k h (q1 k h)
        have hx := exec_agree o (fun cs b => ok.sel i o cs b ho) hag
        have hw := want_agree o hag
        have next : ∀ w', Below W.heap.size W w' → (∀ d ∈ made, mL made l.toArray listed d → Blk w' (γ d) (D d).t (if σ d then (D d).c1 else (D d).c0)) → wpAny P .any l.toArray Q fuel (listed.setIfInBounds i true) (a.put o.dst (vals i)) w' := by
          intro w' hB hm
          refine ih _ _ _ γ σ (soft_frame ok hN inv ho hun hall (by unfold rv; rw [hk]) (fun _ _ _ _ => rfl) hB ?_ ?_ ?_ ?_) hcn
          · intro d hd h
            have h' := mL_other ho (by simp [hk]) h
            exact ⟨(inv.mem d hd h').1, hm d hd h'⟩
          · intro d hd d' hd' h h'
            exact inv.inj d hd d' hd' (mL_other ho (by simp [hk]) h) (mL_other ho (by simp [hk]) h')
          · intro d hd
            obtain ⟨j, oj, h1, h2, h3⟩ := inv.sig d hd
            exact ⟨j, oj, h1, h2, getD_set_true h3⟩
          · intro d j oj hj hkj hl
            exact inv.sig' d j oj hj hkj (sig_other ho (by simp [hk]) hj hkj hl)
        have keep : ∀ w', Below w.heap.size w w' → wpAny P .any l.toArray Q fuel (listed.setIfInBounds i true) (a.put o.dst (vals i)) w' := fun w' hb =>
          next w' (bstep inv.below (Nat.le_refl _) hb) (fun d hd h => (inv.mem d hd h).2.keep hb)
        rcases hO with ⟨hw1, hq⟩ | ⟨hw1, hv⟩
        · rw [if_pos (hw.trans hw1)]
          left
          unfold Oper.wp
          rw [hx]
          unfold QOk at hq
          by_cases hc : isCall o = true
          · rw [if_pos hc] at hq
            have h3 : CUp P w (vals i) ((execOp (frs a0 l vals i).eval o).run P w) := hq ⟨w, inv.below⟩
            generalize (execOp (frs a0 l vals i).eval o).run P w = r at *
            cases r with
            | ok n w' =>
              cases n <;> simp only [CUp] at h3 <;> simp only [Oper.upon]
              case value u => obtain ⟨e1, e2⟩ := h3; rw [e1, e2]; exact keep w (Below.refl _ _)
              case enter f args =>
                obtain ⟨e1, hc1⟩ := h3
                rw [e1]
                exact hc1.mono fun e w'' ⟨he, hb⟩ => by subst he; exact keep w'' hb
            | halt x w' => simp only [CUp] at h3
          · rw [if_neg hc] at hq
            have h3 := hq w ⟨⟨w, inv.below⟩, rfl⟩
            have hpl : plain o = true := q3.resolve_right hc
            unfold Oper.quietAt at h3
            have hne := fun w' f args => plain_not_enter (P := P) hpl (frs a0 l vals i).eval w w' f args
            generalize (execOp (frs a0 l vals i).eval o).run P w = r at *
            cases r with
            | ok n w' =>
              cases n <;> simp only [Oper.quietUpon] at h3 <;> simp only [Oper.upon]
              case value u => obtain ⟨e1, e2⟩ := h3; rw [e1, e2]; exact keep w (Below.refl _ _)
              case skip => obtain ⟨e1, e2⟩ := h3; rw [e1, ← e2]; exact keep w (Below.refl _ _)
              case enter f args => exact absurd rfl (hne w' f args)
            | halt x w' => simp only [Oper.quietUpon] at h3
        · rw [if_neg (by rw [hw, hw1]; simp), ← hv]
          exact keep w (Below.refl _ _)
      | m d0 =>
        simp only [hk] at hO
        obtain ⟨m1, m2, m3, m4⟩ := ok.km i o d0 ho hk
        have hx := exec_agree o (fun cs b => ok.sel i o cs b ho) (fun k h => agree k h (m4 k h))
        rw [if_pos (by unfold Region.wanted; rw [m3])]
        left
        unfold Oper.wp
        rw [hx, show w = (⟨w, inv.below⟩ : Aft W).w from rfl, hO ⟨w, inv.below⟩]
        simp only [Oper.upon]
        have hnm : ¬ mL made l.toArray listed d0 := fun ⟨j, oj, hj, hkj, hl⟩ => by
          have := ok.dist j i oj o d0 hj ho (kd_m hkj).1 m1
          subst this
          rw [getD_both hun] at hl
          cases hl
        have hns : σ d0 = false := by
          cases hs : σ d0 with
          | false => rfl
          | true =>
            exfalso
            obtain ⟨j, oj, hj, hkj, hl⟩ := inv.sig d0 hs
            obtain ⟨_, _, _, _, _, jm, om, hjm, hkm, hwt⟩ := ok.ks j oj d0 hj hkj
            obtain ⟨e, he, hb, hon⟩ := waits_mem hj hwt
            exact hnm ⟨jm, om, hjm, hkm, by rw [← hon]; exact inv.closed j oj hj hl e he hb⟩
        refine ih _ _ _ (fun d => if d = d0 then w.heap.size else γ d) σ (soft_frame ok hN inv ho hun hall (by unfold rv; rw [hk]; simp) (fun j oj hj hl => ?_) (inv.below.alloc inv.below.size _) ?_ ?_ ?_ ?_) hcn
        · unfold rv
          cases hkj : kd made oj with
          | m d =>
            have : d ≠ d0 := fun e => hnm ⟨j, oj, hj, by rw [hkj, e], hl⟩
            simp [this]
          | q => rfl
          | s d => rfl
        · intro d hd h
          by_cases hdd : d = d0
          · subst hdd
            simp only [if_true, hns]
            exact ⟨inv.below.size, Blk.new _ _ _⟩
          · simp only [hdd, if_false]
            have h' : mL made l.toArray listed d := by
              obtain ⟨j, oj, hj, hkj, hl⟩ := h
              refine ⟨j, oj, hj, hkj, ?_⟩
              by_cases hij : i = j
              · subst hij
                rw [ho] at hj
                injection hj with hj
                subst hj
                rw [hk] at hkj
                injection hkj with hkj
                exact absurd hkj.symm hdd
              · rw [getD_set_ne false hij] at hl
                exact hl
            exact ⟨(inv.mem d hd h').1, (inv.mem d hd h').2.alloc _⟩
        · intro d hd d' hd' h h'
          have old : ∀ d, d ∈ made → d ≠ d0 → mL made l.toArray (listed.setIfInBounds i true) d → mL made l.toArray listed d := fun d _ hdd h => by
            obtain ⟨j, oj, hj, hkj, hl⟩ := h
            refine ⟨j, oj, hj, hkj, ?_⟩
            by_cases hij : i = j
            · subst hij
              rw [ho] at hj
              injection hj with hj
              subst hj
              rw [hk] at hkj
              injection hkj with hkj
              exact absurd hkj.symm hdd
            · rw [getD_set_ne false hij] at hl
              exact hl
          by_cases h1 : d = d0 <;> by_cases h2 : d' = d0
          · intro _; rw [h1, h2]
          · simp only [h1, h2, if_true, if_false]
            intro he
            have := (inv.mem d' hd' (old d' hd' h2 h')).2.lt
            omega
          · simp only [h1, h2, if_true, if_false]
            intro he
            have := (inv.mem d hd (old d hd h1 h)).2.lt
            omega
          · simp only [h1, h2, if_false]
            exact inv.inj d hd d' hd' (old d hd h1 h) (old d' hd' h2 h')
        · intro d hd
          obtain ⟨j, oj, h1, h2, h3⟩ := inv.sig d hd
          exact ⟨j, oj, h1, h2, getD_set_true h3⟩
        · intro d j oj hj hkj hl
          exact inv.sig' d j oj hj hkj (sig_other ho (by simp [hk]) hj hkj hl)
      | s d0 =>
        simp only [hk] at hO
        obtain ⟨s1, s2, s3, s4, s5, jm, om, hjm, hkm, hwt⟩ := ok.ks i o d0 ho hk
        have hml : mL made l.toArray listed d0 := by
          obtain ⟨e, he, hb, hon⟩ := waits_mem ho hwt
          exact ⟨jm, om, hjm, hkm, by rw [← hon]; exact hall e he hb⟩
        have hslot : a.tmps[d0]? = some ((D d0).val (γ d0)) := by
          obtain ⟨j, oj, hj, hkj, hl⟩ := hml
          have := inv.new j oj d0 hj (kd_m hkj).1 hl
          rw [this]
          unfold rv
          rw [hkj]
        have hns : σ d0 = false := by
          cases hs : σ d0 with
          | false => rfl
          | true =>
            exfalso
            obtain ⟨j, oj, hj, hkj, hl⟩ := inv.sig d0 hs
            have := ok.ones j i oj o d0 hj ho hkj hk
            subst this
            rw [getD_both hun] at hl
            cases hl
        have hx : execOp a.eval o = execOp ((frs a0 l vals i).put (some d0) ((D d0).val (γ d0))).eval o := by
          refine exec_agree (ops := l.toArray) o (fun cs b => ok.sel i o cs b ho) (fun k h => ?_)
          by_cases hkd : k = d0
          · subst hkd
            rw [hslot, put_at _ _ _ (by rw [(frs_size a0 l vals i).1, hN]; exact ok.msize k s1)]
          · rw [put_get _ _ _ _ (fun e => hkd (by injection e with e; exact e.symm))]
            exact agree k h ((s5 k h).resolve_left hkd)
        have hm := inv.mem d0 s1 hml
        rw [hns] at hm
        obtain ⟨w', hr, hb1, hg⟩ := hO (γ d0) w hm.2
        rw [if_pos (by unfold Region.wanted; rw [s3])]
        left
        unfold Oper.wp
        rw [hx, hr]
        simp only [Oper.upon]
        have hv : undef = rv made D vals γ i o ∨ o.dst = none := .inr s4
        have hput : a.put o.dst undef = a.put o.dst (vals i) := by rw [s4]; rfl
        rw [hput]
        refine ih _ _ _ γ (fun d => if d = d0 then true else σ d) (soft_frame ok hN inv ho hun hall (by unfold rv; rw [hk]) (fun _ _ _ _ => rfl) (inv.below.grown hg inv.below.size (fun q hq => by injection hq with hq; rw [← hq]; exact hm.1)) ?_ ?_ ?_ ?_) hcn
        · intro d hd h
          have h' := mL_other ho (by simp [hk]) h
          by_cases hdd : d = d0
          · subst hdd
            simp only [if_true]
            exact ⟨hm.1, hb1⟩
          · simp only [hdd, if_false]
            refine ⟨(inv.mem d hd h').1, (inv.mem d hd h').2.grown hg (fun e => hdd ?_)⟩
            injection e with e
            exact inv.inj d hd d0 s1 h' hml e
        · intro d hd d' hd' h h'
          exact inv.inj d hd d' hd' (mL_other ho (by simp [hk]) h) (mL_other ho (by simp [hk]) h')
        · intro d hd
          by_cases hdd : d = d0
          · subst hdd
            have hsz : i < listed.size := by rw [inv.size]; exact lt_of_some ho
            exact ⟨i, o, ho, hk, by simp [hsz]⟩
          · simp only [hdd, if_false] at hd
            obtain ⟨j, oj, h1, h2, h3⟩ := inv.sig d hd
            exact ⟨j, oj, h1, h2, getD_set_true h3⟩
        · intro d j oj hj hkj hl
          by_cases hdd : d = d0
          · simp [hdd]
          · simp only [hdd, if_false]
            refine inv.sig' d j oj hj hkj ?_
            by_cases hij : i = j
            · subst hij
              rw [ho] at hj
              injection hj with hj
              subst hj
              rw [hk] at hkj
              injection hkj with hkj
              exact absurd hkj.symm hdd
            · rw [getD_set_ne false hij] at hl
              exact hl

def putM (D : Nat → Mk) (γ : Nat → Nat) : List Nat → Act → Act
  | [], a => a
  | d :: ds, a => putM D γ ds (a.put (some d) ((D d).val (γ d)))
theorem putM_size (γ : Nat → Nat) : ∀ (ds : List Nat) (a : Act), (putM D γ ds a).tmps.size = a.tmps.size ∧ (putM D γ ds a).defers = a.defers
  | [], a => ⟨rfl, rfl⟩
  | d :: ds, a => by
    unfold putM
    exact ⟨by rw [(putM_size γ ds _).1, put_size], by rw [(putM_size γ ds _).2, put_defs]⟩
theorem putM_old (γ : Nat → Nat) (k : Nat) : ∀ (ds : List Nat) (a : Act), k ∉ ds → (putM D γ ds a).tmps[k]? = a.tmps[k]?
  | [], a, _ => rfl
  | d :: ds, a, h => by
    unfold putM
    rw [putM_old γ k ds _ (fun h' => h (by simp [h'])), put_get _ _ _ _ (fun e => h (by injection e with e; simp [e]))]
theorem putM_new (γ : Nat → Nat) (k : Nat) : ∀ (ds : List Nat) (a : Act), k ∈ ds → k < a.tmps.size → (putM D γ ds a).tmps[k]? = some ((D k).val (γ k))
  | d :: ds, a, h, hk => by
    unfold putM
    by_cases hin : k ∈ ds
    · exact putM_new γ k ds _ hin (by rw [put_size]; exact hk)
    · have : k = d := by simpa [hin] using h
      subst this
      rw [putM_old γ k ds _ hin, put_at _ _ _ hk]

/-- ONE WALK, IN THE ORDER OF THE TEXT, SERVES EVERY ORDER. -/
theorem wp_region_soft {id : Nat} {a : Act} {w0 : World} (made : List Nat) (D : Nat → Mk) (N : Nat) (hm : P.follows .mixedOrders = true) (hB : softB made N l.toArray = true) (hN : a.tmps.size = N)
    (h : wpSh P l.toArray w0 made D (fun aF => ∀ (γ : Nat → Nat) (w : World), Below w0.heap.size w0 w → (∀ d ∈ made, w0.heap.size ≤ γ d ∧ Blk w (γ d) (D d).t (D d).c1) → (∀ d ∈ made, ∀ d' ∈ made, γ d = γ d' → d = d') → Q .normal (putM D γ made aF) w) l a) :
    (Code.region id l.toArray true).wp P Q a w0 := by
  have ok := soft_spec hB
  obtain ⟨vals, hok, hfin⟩ := sh_ext l a h
  refine wp_region_any hm ?_
  have h0 : SInv w0 made D l.toArray a vals (Array.replicate l.toArray.size false) a { w0 with drawn := w0.drawn + 1 } (fun _ => 0) (fun _ => false) := by
    have hf : ∀ j, (Array.replicate l.toArray.size false).getD j false = true → False := fun j hj => by rw [getD_replicate_false] at hj; cases hj
    exact ⟨by simp, fun j oj _ hl => (hf j hl).elim, rfl, rfl, fun j o s _ _ hl => (hf j hl).elim, fun s _ => rfl, (Below.refl _ _).drew, fun d _ ⟨j, o, _, _, hl⟩ => (hf j hl).elim, fun d _ d' _ ⟨j, o, _, _, hl⟩ => (hf j hl).elim, fun d hd => (by cases hd), fun d j o _ _ hl => (hf j hl).elim⟩
  refine soft_any (vals := vals) ok hN hok ?_ l.toArray.size _ a _ _ _ h0 (by simp [cnt])
  intro listed a' w γ σ inv hall
  have all : ∀ (j : Nat) (o : Oper), l.toArray[j]? = some o → listed.getD j false = true := fun j o hj => hall j (by rw [inv.size]; exact lt_of_some hj)
  have hml : ∀ d ∈ made, mL made l.toArray listed d := fun d hd => by
    obtain ⟨j, oj, hj, hk⟩ := ok.hasM d hd
    exact ⟨j, oj, hj, hk, all j oj hj⟩
  have hσ : ∀ d ∈ made, σ d = true := fun d hd => by
    obtain ⟨j, oj, hj, hk⟩ := ok.hasS d hd
    exact inv.sig' d j oj hj hk (all j oj hj)
  have hfr : a' = putM D γ made (frs a l vals l.length) := by
    have e1 : a'.tmps = (putM D γ made (frs a l vals l.length)).tmps := by
      apply Array.ext_getElem?
      intro k
      by_cases hkm : k ∈ made
      · rw [putM_new γ k made _ hkm (by rw [(frs_size a l vals _).1, hN]; exact ok.msize k hkm)]
        obtain ⟨j, oj, hj, hk⟩ := ok.hasM k hkm
        rw [inv.new j oj k hj (kd_m hk).1 (all j oj hj)]
        unfold rv
        rw [hk]
      · rw [putM_old γ k made _ hkm]
        by_cases hex : ∃ (j : Nat) (oj : Oper), l.toArray[j]? = some oj ∧ oj.dst = some k
        · obtain ⟨j, oj, hj, dj⟩ := hex
          have hj' : l[j]? = some oj := by rw [← List.getElem?_toArray]; exact hj
          rw [inv.new j oj k hj dj (all j oj hj), frs_new a l vals k j oj hj' dj (by rw [hN]; exact ok.size j oj k hj dj) (fun j' o' h' hne hd' => hne (ok.dist j' j o' oj k (by rw [List.getElem?_toArray]; exact h') hj hd' dj)) l.length (List.getElem?_eq_some_iff.1 hj').1]
          unfold rv
          cases hk : kd made oj with
          | m d => have := kd_m hk; rw [dj] at this; injection this.1 with h1; subst h1; exact absurd this.2 hkm
          | q => rfl
          | s d => rfl
        · have hno : ∀ (j : Nat) (oj : Oper), l.toArray[j]? = some oj → oj.dst ≠ some k := fun j oj hj hd => hex ⟨j, oj, hj, hd⟩
          rw [inv.old k (fun j oj hj _ => hno j oj hj), frs_old a l vals k l.length (fun j oj _ hj => hno j oj (by rw [List.getElem?_toArray]; exact hj))]
    have e2 : a'.defers = (putM D γ made (frs a l vals l.length)).defers := by rw [(putM_size γ made _).2, (frs_size a l vals _).2, inv.defs]
    obtain ⟨t1, d1⟩ := a'
    generalize putM D γ made (frs a l vals l.length) = b at *
    obtain ⟨t2, d2⟩ := b
    simp only at e1 e2
    subst e1 e2
    rfl
  rw [hfr]
  refine hfin γ w inv.below (fun d hd => ?_) (fun d hd d' hd' => inv.inj d hd d' hd' (hml d hd) (hml d' hd'))
  have := inv.mem d hd (hml d hd)
  rw [hσ d hd] at this
  exact this

/-! the steps of the walk -/
variable {ops : Array Oper} {Qf : Act → Prop} {o : Oper} {rest : List Oper} {a : Act}
theorem sh_q (hk : kd made o = .q) (hc : isCall o = false) (hw : Region.wanted o (yielded ops a.tmps) = true) (h : ∀ K : Act → Prop, (∀ a, wpSh P ops W made D Qf rest a → K a) → o.quiet P a (fun w => ∃ n : Aft W, w = n.w) K) : wpSh P ops W made D Qf (o :: rest) a := by
  obtain ⟨v, h1, h2⟩ := h _ (fun _ h => h)
  unfold wpSh
  rw [hk]
  simp only
  rw [if_pos hw]
  exact ⟨v, by unfold QOk; rw [hc]; exact h1, h2⟩
theorem sh_skip (hk : kd made o = .q) (hw : Region.wanted o (yielded ops a.tmps) = false) (h : wpSh P ops W made D Qf rest (a.put o.dst undef)) : wpSh P ops W made D Qf (o :: rest) a := by
  unfold wpSh
  rw [hk]
  simp only
  rw [if_neg (by rw [hw]; simp)]
  exact h
theorem sh_call (hk : kd made o = .q) (hc : isCall o = true) (hw : Region.wanted o (yielded ops a.tmps) = true) (h : ∀ K : Act → Prop, (∀ a, wpSh P ops W made D Qf rest a → K a) → ∃ v, (∀ n : Aft W, CUp P n.w v ((execOp a.eval o).run P n.w)) ∧ K (a.put o.dst v)) : wpSh P ops W made D Qf (o :: rest) a := by
  obtain ⟨v, h1, h2⟩ := h _ (fun _ h => h)
  unfold wpSh
  rw [hk]
  simp only
  rw [if_pos hw]
  exact ⟨v, by unfold QOk; rw [hc]; exact h1, h2⟩
theorem sh_m (d : Nat) (hk : kd made o = .m d) (h1 : MOk P W o a (D d)) (h : wpSh P ops W made D Qf rest (a.put o.dst undef)) : wpSh P ops W made D Qf (o :: rest) a := by
  unfold wpSh
  rw [hk]
  exact ⟨h1, h⟩
theorem sh_s (d : Nat) (hk : kd made o = .s d) (h1 : SOk P o a d (D d)) (h : wpSh P ops W made D Qf rest (a.put o.dst undef)) : wpSh P ops W made D Qf (o :: rest) a := by
  unfold wpSh
  rw [hk]
  exact ⟨h1, h⟩
theorem sh_end (h : Qf a) : wpSh P ops W made D Qf [] a := h
theorem cup_same {f : FuncId} {args : Array Value} {w : World} {v : Value} (h : Calls P f args w fun e w' => e = .returned v ∧ w = w') : Calls P f args w fun e w' => e = .returned v ∧ Below w.heap.size w w' :=
  h.mono fun _ _ ⟨he, hw⟩ => ⟨he, by rw [← hw]; exact Below.refl _ _⟩
end
end Go.Proofs.Ytpimflmmfnffeaa

/- THE MOST GENERAL LAW FOR A REGION THAT DRAWS ITS ORDER: an invariant of what is done (L: which operations; γ: what each has yielded) and of the world; one goal for each operation, whatever the order. -/
namespace Go.Proofs.Ytpimflmmfnffeaa
open Go.RowKit

def updB (L : Nat → Bool) (i : Nat) : Nat → Bool := fun j => if j = i then true else L j
def updV (γ : Nat → Value) (i : Nat) (v : Value) : Nat → Value := fun j => if j = i then v else γ j
/-- the frame: the slots of D (operation, slot) hold what the operations have yielded -/
def frV (a : Act) (γ : Nat → Value) : List (Nat × Nat) → Act
  | [] => a
  | (i, d) :: r => frV (a.put (some d) (γ i)) γ r
theorem put_swap (a : Act) {i j : Nat} (h : i ≠ j) (x y : Value) : (a.put (some i) x).put (some j) y = (a.put (some j) y).put (some i) x := by
  unfold Act.put
  simp only [Act.mk.injEq, and_true]
  exact Array.setIfInBounds_comm _ _ h
theorem put_over (a : Act) (i : Nat) (x y : Value) : (a.put (some i) x).put (some i) y = a.put (some i) y := by
  unfold Act.put
  simp
theorem frV_put : ∀ (D : List (Nat × Nat)) (a : Act) (γ : Nat → Value) (d : Nat) (v : Value), d ∉ D.map Prod.snd → (frV a γ D).put (some d) v = frV (a.put (some d) v) γ D
  | [], _, _, _, _, _ => rfl
  | (i, e) :: r, a, γ, d, v, h => by
    simp only [List.map_cons, List.mem_cons, not_or] at h
    unfold frV
    rw [frV_put r _ γ d v h.2, put_swap a (Ne.symm h.1)]
theorem frV_upd : ∀ (D : List (Nat × Nat)) (a : Act) (γ : Nat → Value) (i d : Nat) (v : Value), (i, d) ∈ D → (D.map Prod.fst).Nodup → (D.map Prod.snd).Nodup → (frV a γ D).put (some d) v = frV a (updV γ i v) D
  | (j, e) :: r, a, γ, i, d, v, hm, h1, h2 => by
    simp only [List.map_cons, List.nodup_cons] at h1 h2
    rcases List.mem_cons.1 hm with h | h
    · injection h with h3 h4
      subst h3 h4
      unfold frV
      rw [frV_put r _ γ d v h2.1, put_over]
      have : frV (a.put (some d) v) γ r = frV (a.put (some d) v) (updV γ i v) r := by
        have key : ∀ (r : List (Nat × Nat)) (b : Act), i ∉ r.map Prod.fst → frV b γ r = frV b (updV γ i v) r := by
          intro r
          induction r with
          | nil => intro b _; rfl
          | cons x r ih =>
            intro b hb
            obtain ⟨j, e⟩ := x
            simp only [List.map_cons, List.mem_cons, not_or] at hb
            unfold frV
            rw [ih _ hb.2]
            have : updV γ i v j = γ j := by unfold updV; rw [if_neg (Ne.symm hb.1)]
            rw [this]
        exact key r _ h1.1
      rw [this]
      have e : updV γ i v i = v := by unfold updV; rw [if_pos rfl]
      rw [e]
    · unfold frV
      rw [frV_upd r _ γ i d v h h1.2 h2.2]
      have hne : j ≠ i := fun e => h1.1 (by rw [e]; exact List.mem_map.2 ⟨_, h, rfl⟩)
      have : updV γ i v j = γ j := by unfold updV; rw [if_neg hne]
      rw [this]
theorem frV_size : ∀ (D : List (Nat × Nat)) (a : Act) (γ : Nat → Value), (frV a γ D).tmps.size = a.tmps.size
  | [], _, _ => rfl
  | (i, e) :: r, a, γ => by unfold frV; rw [frV_size r]; simp [Act.put]
theorem frV_old : ∀ (D : List (Nat × Nat)) (a : Act) (γ : Nat → Value) (d : Nat), d ∉ D.map Prod.snd → (frV a γ D).eval (.tmp d) = a.eval (.tmp d)
  | [], _, _, _, _ => rfl
  | (i, e) :: r, a, γ, d, h => by
    simp only [List.map_cons, List.mem_cons, not_or] at h
    unfold frV
    rw [frV_old r _ γ d h.2]
    simp only [Act.eval, Act.put, Array.getD_eq_getD_getElem?, Array.getElem?_setIfInBounds]
    rw [if_neg (Ne.symm h.1)]
theorem frV_new : ∀ (D : List (Nat × Nat)) (a : Act) (γ : Nat → Value) (i d : Nat), (i, d) ∈ D → (D.map Prod.snd).Nodup → d < a.tmps.size → (frV a γ D).eval (.tmp d) = γ i
  | (j, e) :: r, a, γ, i, d, hm, h2, hd => by
    simp only [List.map_cons, List.nodup_cons] at h2
    unfold frV
    rcases List.mem_cons.1 hm with h | h
    · injection h with h3 h4
      subst h3 h4
      rw [frV_old r _ γ d h2.1]
      simp only [Act.eval, Act.put, Array.getD_eq_getD_getElem?, Array.getElem?_setIfInBounds]
      simp [hd]
    · exact frV_new r _ γ i d h h2.2 (by simpa [Act.put] using hd)

variable {P : Program} {Q : Exit → Act → World → Prop}
theorem wpOp_inv {ops : Array Oper} {i : Nat} {o : Oper} {a : Act} {w : World} {K : Act → World → Prop} (ho : ops[i]? = some o) (hg : o.guard = none) (h : o.wp P a w K Q) : wpOp P ops Q i K a w := by
  unfold wpOp
  rw [ho]
  have hw : Region.wanted o (yielded ops a.tmps) = true := by simp [Region.wanted, hg]
  simp only [hw, if_true]
  exact .inl h
theorem wpAny_inv {ops : Array Oper} (J : (Nat → Bool) → (Nat → Value) → World → Prop) (fr : (Nat → Value) → Act)
    (hback : ∀ (i : Nat) (o : Oper), ops[i]? = some o → ∀ e ∈ o.after, Region.binds .any e = true → e.on < i)
    (hstep : ∀ (i : Nat) (o : Oper) (L : Nat → Bool) (γ : Nat → Value) (w : World), J L γ w → ops[i]? = some o → L i = false → (∀ e ∈ o.after, Region.binds .any e = true → L e.on = true) →
      wpOp P ops Q i (fun a' w' => ∃ v, a' = fr (updV γ i v) ∧ J (updB L i) (updV γ i v) w') (fr γ) w)
    (hend : ∀ (L : Nat → Bool) (γ : Nat → Value) (w : World), J L γ w → (∀ i, i < ops.size → L i = true) → Q .normal (fr γ) w) :
    ∀ (fuel : Nat) (listed : Array Bool) (γ : Nat → Value) (w : World), listed.size = ops.size → J (fun i => listed.getD i true) γ w → cnt listed = fuel → wpAny P .any ops Q fuel listed (fr γ) w := by
  intro fuel
  induction fuel with
  | zero =>
    intro listed γ w hs hJ hc
    have hall : ∀ i, i < listed.size → listed.getD i false = true := fun i hi => cnt_zero hc i hi
    have hall2 : ∀ i, i < ops.size → listed.getD i true = true := fun i hi => by
      have := hall i (by omega)
      cases h : listed.getD i true with
      | true => rfl
      | false => rw [getD_both h] at this; cases this
    refine ⟨?_, hend _ γ w hJ hall2⟩
    rw [List.eq_nil_iff_forall_not_mem]
    intro i hi
    obtain ⟨h1, o, ho, _⟩ := mem_ready.1 hi
    have h2 := hall2 i (Array.getElem?_eq_some_iff.1 ho).1
    rw [h1] at h2
    cases h2
  | succ fuel ih =>
    intro listed γ w hs hJ hc
    constructor
    · intro hr
      exfalso
      have hex : ∃ i, i < listed.size ∧ listed.getD i false = false := by
        refine Classical.byContradiction fun hne => ?_
        have hall : ∀ i, i < listed.size → listed.getD i false = true := fun i hi => by
          cases h : listed.getD i false with
          | true => rfl
          | false => exact absurd ⟨i, hi, h⟩ hne
        have : cnt listed = 0 := by
          unfold cnt
          rw [List.length_eq_zero_iff, List.filter_eq_nil_iff]
          intro b hb
          obtain ⟨i, hi, he⟩ := List.mem_iff_getElem.1 hb
          have h1 := hall i (by simpa using hi)
          have hi' : i < listed.size := by simpa using hi
          simp [hi'] at h1
          simp at he
          rw [← he, h1]
          simp
        omega
      obtain ⟨i0, hi0, hu0⟩ := hex
      have hmin : ∃ i, i < listed.size ∧ listed.getD i false = false ∧ ∀ j, j < i → listed.getD j false = true := by
        induction i0 using Nat.strongRecOn with
        | _ i0 ihm =>
          by_cases h : ∃ j, j < i0 ∧ listed.getD j false = false
          · obtain ⟨j, hj, hju⟩ := h
            exact ihm j hj (by omega) hju
          · refine ⟨i0, hi0, hu0, fun j hj => ?_⟩
            cases hjv : listed.getD j false with
            | true => rfl
            | false => exact absurd ⟨j, hj, hjv⟩ h
      obtain ⟨i, hi, hu, hlt⟩ := hmin
      have hil : i < ops.size := by omega
      have : i ∈ Region.ready .any ops listed := mem_ready.2 ⟨getD_in hi hu, ops[i], by simp [Array.getElem?_eq_getElem hil], fun e he hb => hlt _ (hback i _ (Array.getElem?_eq_getElem hil) e he hb)⟩
      rw [hr] at this
      cases this
    · intro i hi
      obtain ⟨hun, o, ho, hall⟩ := mem_ready.1 hi
      have hcn : cnt (listed.setIfInBounds i true) = fuel := by have := cnt_step hun; omega
      have hsz : i < listed.size := by rw [hs]; exact (Array.getElem?_eq_some_iff.1 ho).1
      refine wpOp_mono ?_ (hstep i o _ γ w hJ ho hun fun e he hb => ?_)
      · rintro a' w' ⟨v, rfl, hJ'⟩
        refine ih _ _ _ (by simpa using hs) ?_ hcn
        have : (fun j => (listed.setIfInBounds i true).getD j true) = updB (fun j => listed.getD j true) i := by
          funext j
          unfold updB
          by_cases hj : j = i
          · rw [if_pos hj, hj]; simp [hsz]
          · rw [if_neg hj]
            simp only [Array.getD_eq_getD_getElem?, Array.getElem?_setIfInBounds]
            rw [if_neg (Ne.symm hj)]
        rw [this]
        exact hJ'
      · have := hall e he hb
        show listed.getD e.on true = true
        cases h : listed.getD e.on true with
        | true => rfl
        | false => rw [getD_both h] at this; cases this
theorem wp_region_inv {id : Nat} {a : Act} {w0 : World} {l : List Oper} (D : List (Nat × Nat)) (J : (Nat → Bool) → (Nat → Value) → World → Prop) (hm : P.follows .mixedOrders = true)
    (hB : ((List.range l.toArray.size).all fun i => backB l.toArray i) = true) (hun : frV a (fun _ => undef) D = a)
    (h0 : J (fun i => decide (l.length ≤ i)) (fun _ => undef) w0.drew)
    (hstep : ∀ (i : Nat) (o : Oper) (L : Nat → Bool) (γ : Nat → Value) (w : World), J L γ w → l.toArray[i]? = some o → L i = false → (∀ e ∈ o.after, Region.binds .any e = true → L e.on = true) →
      wpOp P l.toArray Q i (fun a' w' => ∃ v, a' = frV a (updV γ i v) D ∧ J (updB L i) (updV γ i v) w') (frV a γ D) w)
    (hend : ∀ (L : Nat → Bool) (γ : Nat → Value) (w : World), J L γ w → (∀ i, i < l.length → L i = true) → Q .normal (frV a γ D) w) :
    (Code.region id l.toArray true).wp P Q a w0 := by
  refine wp_region_any hm ?_
  have hb : ∀ (i : Nat) (o : Oper), l.toArray[i]? = some o → ∀ e ∈ o.after, Region.binds .any e = true → e.on < i := fun i o ho e he hbe => by
    simp only [List.all_eq_true, List.mem_range] at hB
    have := hB i (Array.getElem?_eq_some_iff.1 ho).1
    unfold backB at this
    rw [ho] at this
    simp only [Array.all_eq_true'] at this
    have := this e he
    simpa [hbe] using this
  have key := wpAny_inv (P := P) (Q := Q) (ops := l.toArray) J (fun γ => frV a γ D) hb hstep (fun L γ w hJ h => hend L γ w hJ (by simpa using h)) l.toArray.size (Array.replicate l.toArray.size false) (fun _ => undef) w0.drew (by simp) ?_ (by simp [cnt])
  · rw [hun] at key
    exact key
  · have : (fun i => (Array.replicate l.toArray.size false).getD i true) = fun i => decide (l.length ≤ i) := by
      funext i
      simp only [Array.getD_eq_getD_getElem?, Array.getElem?_replicate, List.size_toArray]
      by_cases h : i < l.length
      · rw [if_pos h]; simp; omega
      · rw [if_neg h]; simp; omega
    rw [this]
    exact h0
end Go.Proofs.Ytpimflmmfnffeaa
