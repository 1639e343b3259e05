/- A region that draws its order, with operations whose values are not known beforehand (calls that hand back new memory): each such slot has a property that later operations keep; one walk, in the order of the text, serves every order. -/
import Derived.Test.YtkhbnklaglnfdaaSoft3
namespace Go.Proofs.Ytkhbnklaglnfdaa
open Go.RowKit

/-- how the world may turn in one operation of the region -/
structure Way (R : World → World → Prop) : Prop where
  refl : ∀ w, R w w
  trans : ∀ a b c, R a b → R b c → R a c
  drew : ∀ w, R w { w with drawn := w.drawn + 1 }
structure Cls (R : World → World → Prop) (W : World) where
  w : World
  ok : R W w

def ndOf (made : List Nat) (o : Oper) : Option Nat := match o.dst with
  | some d => if made.contains d then some d else none
  | none => none
def lkOf (made : List Nat) (ops : Array Oper) (o : Oper) : List Nat := made.filter fun k => (o.looksAt ops).contains k
def putG (γ : Nat → Value) : List Nat → Act → Act
  | [], a => a
  | k :: ks, a => putG γ ks (a.put (some k) (γ k))

section
variable {P : Program} {R : World → World → Prop} {W : World} {made : List Nat} {S : Nat → Value → World → Prop} {ops : Array Oper}

def NUp (P : Program) (R : World → World → Prop) (T : Value → World → Prop) (w : World) : Result Next → Prop
  | .ok (.value v) w' => R w w' ∧ T v w'
  | .ok .skip w' => R w w' ∧ T undef w'
  | .ok (.enter f args) w' => R w w' ∧ Calls P f args w' fun e w'' => ∃ v, e = .returned v ∧ R w' w'' ∧ T v w''
  | _ => False
def RUp (P : Program) (R : World → World → Prop) (w : World) (v : Value) : Result Next → Prop
  | .ok (.enter f args) w' => w' = w ∧ Calls P f args w fun e w'' => e = .returned v ∧ R w w''
  | .ok (.value u) w' => w' = w ∧ u = v
  | _ => False
def ROk (P : Program) (R : World → World → Prop) (W : World) (made : List Nat) (S : Nat → Value → World → Prop) (ops : Array Oper) (o : Oper) (a : Act) (v : Value) : Prop :=
  match ndOf made o with
  | some d => v = undef ∧ ∀ (γ : Nat → Value) (w : World), R W w → (∀ k ∈ lkOf made ops o, S k (γ k) w) → NUp P R (S d) w ((execOp (putG γ (lkOf made ops o) a).eval o).run P w)
  | none =>
    if lkOf made ops o = [] then
      (if isCall o then ∀ n : Cls R W, RUp P R n.w v ((execOp a.eval o).run P n.w) else ∀ w, (∃ n : Cls R W, w = n.w) → o.quietAt P a (fun w => ∃ n : Cls R W, w = n.w) w v)
    else ∀ (γ : Nat → Value) (w : World), R W w → (∀ k ∈ lkOf made ops o, S k (γ k) w) → NUp P R (fun u _ => u = v) w ((execOp (putG γ (lkOf made ops o) a).eval o).run P w)
/-- an operation that is passed over leaves its slot empty -/
def RNo (R : World → World → Prop) (W : World) (made : List Nat) (S : Nat → Value → World → Prop) (o : Oper) : Prop := ∀ d, ndOf made o = some d → ∀ w, R W w → S d undef w
def wpRl (P : Program) (ops : Array Oper) (R : World → World → Prop) (W : World) (made : List Nat) (S : Nat → Value → World → Prop) (Q : Act → Prop) : List Oper → Act → Prop
  | [], a => Q a
  | o :: rest, a =>
    if Region.wanted o (yielded ops a.tmps) = true then ∃ v, ROk P R W made S ops o a v ∧ wpRl P ops R W made S Q rest (a.put o.dst v)
    else RNo R W made S o ∧ wpRl P ops R W made S Q rest (a.put o.dst undef)
/-- what the walk shows of one operation -/
def RAt (P : Program) (ops : Array Oper) (R : World → World → Prop) (W : World) (made : List Nat) (S : Nat → Value → World → Prop) (o : Oper) (a : Act) (v : Value) : Prop :=
  (Region.wanted o (yielded ops a.tmps) = true ∧ ROk P R W made S ops o a v) ∨ (Region.wanted o (yielded ops a.tmps) = false ∧ v = undef ∧ RNo R W made S o)

theorem rl_ext {Q : Act → Prop} : ∀ (l : List Oper) (a : Act), wpRl P ops R W made S Q l a →
    ∃ vals : Nat → Value, (∀ j o, l[j]? = some o → RAt P ops R W made S o (frs a l vals j) (vals j)) ∧ Q (frs a l vals l.length)
  | [], a, h => ⟨fun _ => undef, fun j o hj => by simp at hj, h⟩
  | o :: l, a, h => by
    have key : ∀ v, RAt P ops R W made S o a v → wpRl P ops R W made S Q l (a.put o.dst v) → ∃ vals : Nat → Value, (∀ j o', (o :: l)[j]? = some o' → RAt P ops R W made S o' (frs a (o :: l) vals j) (vals j)) ∧ Q (frs a (o :: l) vals (o :: l).length) := by
      intro v hv hr
      obtain ⟨vs, h1, h2⟩ := rl_ext l _ hr
      refine ⟨fun i => match i with | 0 => v | i + 1 => vs i, fun j o' hj => ?_, ?_⟩
      · cases j with
        | zero =>
          simp at hj
          subst hj
          exact hv
        | succ j =>
          rw [frs_cons]
          exact h1 j o' hj
      · rw [List.length_cons, frs_cons]
        exact h2
    unfold wpRl at h
    by_cases hw : Region.wanted o (yielded ops a.tmps) = true
    · rw [if_pos hw] at h
      obtain ⟨v, hv, hr⟩ := h
      exact key v (.inl ⟨hw, hv⟩) hr
    · rw [if_neg hw] at h
      exact key undef (.inr ⟨by simpa using hw, rfl, h.1⟩) h.2

/-! frames with the unknown values laid in -/
theorem putG_size (γ : Nat → Value) : ∀ (ds : List Nat) (a : Act), (putG γ ds a).tmps.size = a.tmps.size ∧ (putG γ ds a).defers = a.defers
  | [], a => ⟨rfl, rfl⟩
  | d :: ds, a => by
    unfold putG
    exact ⟨by rw [(putG_size γ ds _).1, put_size], by rw [(putG_size γ ds _).2, put_defs]⟩
theorem putG_old (γ : Nat → Value) (k : Nat) : ∀ (ds : List Nat) (a : Act), k ∉ ds → (putG γ ds a).tmps[k]? = a.tmps[k]?
  | [], a, _ => rfl
  | d :: ds, a, h => by
    unfold putG
    rw [putG_old γ k ds _ (fun h' => h (by simp [h'])), put_get _ _ _ _ (fun e => h (by injection e with e; simp [e]))]
theorem putG_new (γ : Nat → Value) (k : Nat) : ∀ (ds : List Nat) (a : Act), k ∈ ds → k < a.tmps.size → (putG γ ds a).tmps[k]? = some (γ k)
  | d :: ds, a, h, hk => by
    unfold putG
    by_cases hin : k ∈ ds
    · exact putG_new γ k ds _ hin (by rw [put_size]; exact hk)
    · have : k = d := by simpa [hin] using h
      subst this
      rw [putG_old γ k ds _ hin, put_at _ _ _ hk]

/-! what is asked of the region's text -/
def relyB (made : List Nat) (N : Nat) (ops : Array Oper) : Bool :=
  Region.noSelect ops &&
  ((List.range ops.size).all fun i => (List.range ops.size).all fun j => i == j || (dstOf ops i).isNone || dstOf ops i != dstOf ops j) &&
  ((List.range ops.size).all fun i => backB ops i) &&
  ((List.range ops.size).all fun i => lookB ops i) &&
  ((List.range ops.size).all fun i => match ops[i]? with
    | some o => ((o.looksAt ops).all fun k => !made.contains k || (List.range i).any fun j => dstOf ops j == some k && Region.waitsFor .any ops i j) &&
        (match o.guard with | some (g, _) => (match dstOf ops g with | some k => !made.contains k | none => true) | none => true) && (plain o || isCall o || (ndOf made o).isSome)
    | none => true) &&
  (made.all fun d => (List.range ops.size).any fun i => dstOf ops i == some d) &&
  ((List.range ops.size).all fun j => match dstOf ops j with | some s => decide (s < N) | none => true) &&
  (made.all fun d => decide (d < N))
structure RelyOk (made : List Nat) (N : Nat) (ops : Array Oper) : Prop where
  sel : ∀ (j : Nat) (o : Oper) cs b, ops[j]? = some o → o.op ≠ .select cs b
  dist : ∀ (i j : Nat) (oi oj : Oper) (k : Nat), ops[i]? = some oi → ops[j]? = some oj → oi.dst = some k → oj.dst = some k → i = j
  back : ∀ (i : Nat) (o : Oper), ops[i]? = some o → ∀ e ∈ o.after, Region.binds .any e = true → e.on < i
  look : ∀ (i j : Nat) (oi oj : Oper) (k : Nat), ops[i]? = some oi → ops[j]? = some oj → k ∈ oi.looksAt ops → oj.dst = some k → (j < i ∧ Region.waitsFor .any ops i j = true) ∨ (i < j ∧ Region.waitsFor .any ops j i = true)
  made_ : ∀ (i : Nat) (o : Oper) (k : Nat), ops[i]? = some o → k ∈ o.looksAt ops → k ∈ made → ∃ (j : Nat) (oj : Oper), ops[j]? = some oj ∧ oj.dst = some k ∧ Region.waitsFor .any ops i j = true
  grd : ∀ (i : Nat) (o : Oper) (g : Nat) (b : Bool) (k : Nat), ops[i]? = some o → o.guard = some (g, b) → dstOf ops g = some k → k ∉ made
  pl : ∀ (i : Nat) (o : Oper), ops[i]? = some o → plain o = true ∨ isCall o = true ∨ (ndOf made o).isSome = true
  has : ∀ d ∈ made, ∃ (j : Nat) (oj : Oper), ops[j]? = some oj ∧ oj.dst = some d
  size : ∀ (j : Nat) (o : Oper) (s : Nat), ops[j]? = some o → o.dst = some s → s < N
  msize : ∀ d ∈ made, d < N
theorem dst_spec {i k : Nat} (h : (dstOf ops i == some k) = true) : ∃ o, ops[i]? = some o ∧ o.dst = some k := by
  unfold dstOf at h
  cases ho : ops[i]? with
  | none => simp [ho] at h
  | some o => simp [ho] at h; exact ⟨o, rfl, h⟩
theorem rely_spec {N : Nat} (h : relyB made N ops = true) : RelyOk made N ops := by
  simp only [relyB, Bool.and_eq_true, List.all_eq_true, List.mem_range] at h
  obtain ⟨⟨⟨⟨⟨⟨⟨h0, h1⟩, h2⟩, h3⟩, h4⟩, h6⟩, h7⟩, h8⟩ := h
  refine ⟨Region.noSelect_spec h0, ?_, ?_, ?_, ?_, ?_, ?_, ?_, ?_, ?_⟩
  · intro i j oi oj k hi hj di dj
    have := h1 i (lt_of_some hi) j (lt_of_some hj)
    simp [dstOf, hi, hj, di, dj] at this
    exact this
  · intro i o hi e he hb
    have := h2 i (lt_of_some hi)
    unfold backB at this
    rw [hi] at this
    have := Array.all_eq_true'.1 this e he
    simp [hb] at this
    exact this
  · intro i j oi oj k hi hj hk dj
    have := h3 i (lt_of_some hi)
    unfold lookB at this
    rw [hi] at this
    have := List.all_eq_true.1 (List.all_eq_true.1 this k hk) j (List.mem_range.2 (lt_of_some hj))
    simp [dstOf, hj, dj] at this
    exact this
  · intro i o k hi hk hm
    have := h4 i (lt_of_some hi)
    rw [hi] at this
    simp only [Bool.and_eq_true, List.all_eq_true, Bool.or_eq_true, List.any_eq_true] at this
    rcases this.1.1 k hk with h9 | ⟨j, hj, h9, h10⟩
    · simp [hm] at h9
    · obtain ⟨oj, hoj, hd⟩ := dst_spec h9
      exact ⟨j, oj, hoj, hd, h10⟩
  · intro i o g b k hi hg hd
    have := h4 i (lt_of_some hi)
    rw [hi] at this
    simp only [Bool.and_eq_true, hg, hd] at this
    simpa using this.1.2
  · intro i o hi
    have := h4 i (lt_of_some hi)
    rw [hi] at this
    simp only [Bool.and_eq_true, Bool.or_eq_true] at this
    rcases this.2 with (h9 | h9) | h9
    · exact .inl h9
    · exact .inr (.inl h9)
    · exact .inr (.inr h9)
  · intro d hd
    obtain ⟨i, _, hi⟩ := by simpa only [List.any_eq_true] using h6 d hd
    obtain ⟨o, ho, hk⟩ := dst_spec hi
    exact ⟨i, o, ho, hk⟩
  · intro j o s hj hd
    have := h7 j (lt_of_some hj)
    simp [dstOf, hj, hd] at this
    exact this
  · intro d hd
    simpa using h8 d hd
theorem nd_some {o : Oper} {d : Nat} (h : ndOf made o = some d) : o.dst = some d ∧ d ∈ made := by
  unfold ndOf at h
  split at h
  · rename_i d' hd
    split at h
    · rename_i hm
      injection h with h
      subst h
      exact ⟨hd, by simpa using hm⟩
    · cases h
  · cases h
theorem nd_none {o : Oper} {d : Nat} (h : ndOf made o = none) (hd : o.dst = some d) : d ∉ made := by
  unfold ndOf at h
  rw [hd] at h
  simp only at h
  split at h
  · cases h
  · rename_i hm
    simpa using hm
theorem nd_in {o : Oper} {d : Nat} (hd : o.dst = some d) (hm : d ∈ made) : ndOf made o = some d := by
  unfold ndOf
  rw [hd]
  simp [hm]

/-! what holds along every order -/
variable {l : List Oper} {a0 : Act} {vals : Nat → Value} {N : Nat}
/-- has the slot been written? -/
def wL (ops : Array Oper) (listed : Array Bool) (d : Nat) : Prop := ∃ (j : Nat) (o : Oper), ops[j]? = some o ∧ o.dst = some d ∧ listed.getD j false = true
structure RInv (R : World → World → Prop) (W : World) (made : List Nat) (S : Nat → Value → World → Prop) (ops : Array Oper) (a0 : Act) (vals : Nat → Value) (listed : Array Bool) (a : Act) (w : World) (γ : Nat → Value) : Prop where
  size : listed.size = ops.size
  closed : ∀ (j : Nat) (oj : Oper), ops[j]? = some oj → listed.getD j false = true → ∀ e ∈ oj.after, Region.binds .any e = true → listed.getD e.on false = true
  fsize : a.tmps.size = a0.tmps.size
  defs : a.defers = a0.defers
  new : ∀ (j : Nat) (o : Oper) (s : Nat), ops[j]? = some o → o.dst = some s → listed.getD j false = true → a.tmps[s]? = some (if s ∈ made then γ s else vals j)
  old : ∀ s : Nat, (∀ (j : Nat) (o : Oper), ops[j]? = some o → listed.getD j false = true → o.dst ≠ some s) → a.tmps[s]? = a0.tmps[s]?
  rel : R W w
  sp : ∀ d ∈ made, wL ops listed d → S d (γ d) w

theorem rely_agree (ok : RelyOk made N l.toArray) (hN : a0.tmps.size = N) {listed : Array Bool} {a : Act} {w : World} {γ : Nat → Value} (inv : RInv R W made S l.toArray a0 vals listed a w γ)
    {i : Nat} {o : Oper} (hi : l.toArray[i]? = some o) (hun : listed.getD i true = false) (hall : ∀ e ∈ o.after, Region.binds .any e = true → listed.getD e.on false = true) {k : Nat} (hk : k ∈ o.looksAt l.toArray) (hkm : k ∉ made) :
    a.tmps[k]? = (frs a0 l vals i).tmps[k]? := by
  have hli : ∀ j : Nat, l.toArray[j]? = l[j]? := fun j => List.getElem?_toArray
  by_cases hex : ∃ (j : Nat) (oj : Oper), l.toArray[j]? = some oj ∧ oj.dst = some k
  · obtain ⟨j, oj, hj, dj⟩ := hex
    rcases ok.look i j o oj k hi hj hk dj with ⟨hlt, hw⟩ | ⟨hlt, hw⟩
    · obtain ⟨e, he, hb, hon⟩ := waits_mem hi hw
      have hlj := hall e he hb
      rw [hon] at hlj
      rw [inv.new j oj k hj dj hlj, if_neg hkm, frs_new a0 l vals k j oj (by rw [← hli]; exact hj) dj (by rw [hN]; exact ok.size j oj k hj dj) (fun j' o' hj' hne hd' => hne (ok.dist j' j o' oj k (by rw [hli]; exact hj') hj hd' dj)) i hlt]
    · have hnl : listed.getD j false = true → False := fun hl => by
        obtain ⟨e, he, hb, hon⟩ := waits_mem hj hw
        have := inv.closed j oj hj hl e he hb
        rw [hon, getD_both hun] at this
        cases this
      rw [inv.old k (fun j' o' hj' hl' hd' => by have := ok.dist j' j o' oj k hj' hj hd' dj; subst this; exact hnl hl'),
        frs_old a0 l vals k i (fun j' o' hlt' hj' hd' => by have := ok.dist j' j o' oj k (by rw [hli]; exact hj') hj hd' dj; omega)]
  · have hno : ∀ (j : Nat) (oj : Oper), l.toArray[j]? = some oj → oj.dst ≠ some k := fun j oj hj hd => hex ⟨j, oj, hj, hd⟩
    rw [inv.old k (fun j oj hj _ => hno j oj hj), frs_old a0 l vals k i (fun j oj _ hj => hno j oj (by rw [hli]; exact hj))]

theorem wl_other {listed : Array Bool} {i : Nat} {o : Oper} (hi : ops[i]? = some o) {d : Nat} (hd : o.dst ≠ some d) (h : wL ops (listed.setIfInBounds i true) d) : wL ops listed d := by
  obtain ⟨j, oj, hj, hkj, hl⟩ := h
  refine ⟨j, oj, hj, hkj, ?_⟩
  by_cases hij : i = j
  · subst hij
    rw [hi] at hj
    injection hj with hj
    subst hj
    exact absurd hkj hd
  · rw [getD_set_ne false hij] at hl
    exact hl

/-- one more is listed -/
theorem rely_frame (ok : RelyOk made N ops) (hN : a0.tmps.size = N) {listed : Array Bool} {a : Act} {w : World} {γ γ' : Nat → Value} (inv : RInv R W made S ops a0 vals listed a w γ)
    {i : Nat} {o : Oper} (hi : ops[i]? = some o) (hun : listed.getD i true = false) (hall : ∀ e ∈ o.after, Region.binds .any e = true → listed.getD e.on false = true) {v : Value} (hv : ∀ s, o.dst = some s → v = if s ∈ made then γ' s else vals i)
    (hγ : ∀ d, o.dst ≠ some d → γ' d = γ d) {w' : World} (hR : R W w') (hsp : ∀ d ∈ made, wL ops (listed.setIfInBounds i true) d → S d (γ' d) w') :
    RInv R W made S ops a0 vals (listed.setIfInBounds i true) (a.put o.dst v) w' γ' := by
  have hsz : i < listed.size := by rw [inv.size]; exact lt_of_some hi
  refine ⟨by simp [inv.size], fun j oj hj hl e he hb => ?_, by rw [put_size]; exact inv.fsize, by rw [put_defs]; exact inv.defs, fun j oj s hj hd hl => ?_, fun s hs => ?_, hR, hsp⟩
  · by_cases hij : i = j
    · subst hij
      rw [hi] at hj
      injection hj with hj
      subst hj
      exact getD_set_true (hall e he hb)
    · rw [getD_set_ne false hij] at hl
      exact getD_set_true (inv.closed j oj hj hl e he hb)
  · by_cases hij : i = j
    · subst hij
      rw [hi] at hj
      injection hj with hj
      subst hj
      rw [hd, put_at _ _ _ (by rw [inv.fsize, hN]; exact ok.size i o s hi hd), hv s hd]
    · rw [getD_set_ne false hij] at hl
      have hne : o.dst ≠ some s := fun h => hij (ok.dist i j o oj s hi hj h hd)
      rw [put_get _ _ _ _ hne, inv.new j oj s hj hd hl, hγ s hne]
  · have h1 : o.dst ≠ some s := hs i o hi (by simp [hsz])
    rw [put_get _ _ _ _ h1]
    exact inv.old s fun j oj hj hl => hs j oj hj (getD_set_true hl)
end
end Go.Proofs.Ytkhbnklaglnfdaa
