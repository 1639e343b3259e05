/- The law of a region that draws its order (see Soft, Soft2): what holds along every order. -/
import Derived.Test.YtlkgmedenbfhkaaSoft2
namespace Go.Proofs.Ytlkgmedenbfhkaa
open Go.RowKit

section
variable {P : Program} {W : World} {made : List Nat} {D : Nat → Mk} {ops : Array Oper} {l : List Oper} {a0 : Act} {vals : Nat → Value} {N : Nat}

def rv (made : List Nat) (D : Nat → Mk) (vals : Nat → Value) (γ : Nat → Nat) (j : Nat) (o : Oper) : Value := match kd made o with
  | .m d => (D d).val (γ d)
  | _ => vals j
/-- has a new variable been made? -/
def mL (made : List Nat) (ops : Array Oper) (listed : Array Bool) (d : Nat) : Prop := ∃ (j : Nat) (o : Oper), ops[j]? = some o ∧ kd made o = .m d ∧ listed.getD j false = true

structure SInv (W : World) (made : List Nat) (D : Nat → Mk) (ops : Array Oper) (a0 : Act) (vals : Nat → Value) (listed : Array Bool) (a : Act) (w : World) (γ : Nat → Nat) (σ : Nat → Bool) : Prop where
  size : listed.size = ops.size
  closed : ∀ (j : Nat) (oj : Oper), ops[j]? = some oj → listed.getD j false = true → ∀ e ∈ oj.after, Region.binds .any e = true → listed.getD e.on false = true
  fsize : a.tmps.size = a0.tmps.size
  defs : a.defers = a0.defers
  new : ∀ (j : Nat) (o : Oper) (s : Nat), ops[j]? = some o → o.dst = some s → listed.getD j false = true → a.tmps[s]? = some (rv made D vals γ j o)
  old : ∀ s : Nat, (∀ (j : Nat) (o : Oper), ops[j]? = some o → listed.getD j false = true → o.dst ≠ some s) → a.tmps[s]? = a0.tmps[s]?
  below : Below W.heap.size W w
  mem : ∀ d ∈ made, mL made ops listed d → W.heap.size ≤ γ d ∧ Blk w (γ d) (D d).t (if σ d then (D d).c1 else (D d).c0)
  inj : ∀ d ∈ made, ∀ d' ∈ made, mL made ops listed d → mL made ops listed d' → γ d = γ d' → d = d'
  sig : ∀ d, σ d = true → ∃ (j : Nat) (o : Oper), ops[j]? = some o ∧ kd made o = .s d ∧ listed.getD j false = true
  sig' : ∀ (d j : Nat) (o : Oper), ops[j]? = some o → kd made o = .s d → listed.getD j false = true → σ d = true

theorem waits_mem {md : Region.Mode} {i j : Nat} {o : Oper} (hi : ops[i]? = some o) (h : Region.waitsFor md ops i j = true) : ∃ e ∈ o.after, Region.binds md e = true ∧ e.on = j := by
  obtain ⟨oi, ho, he⟩ := Region.waitsFor_spec h
  rw [hi] at ho
  injection ho with ho
  subst ho
  exact he

/-- what an operation that comes up looks at is as in the walk -/
theorem soft_agree (ok : SoftOk made N l.toArray) (hN : a0.tmps.size = N) {listed : Array Bool} {a : Act} {w : World} {γ : Nat → Nat} {σ : Nat → Bool} (inv : SInv W made D l.toArray a0 vals listed a w γ σ)
    {i : Nat} {o : Oper} (hi : l.toArray[i]? = some o) (hun : listed.getD i true = false) (hall : ∀ e ∈ o.after, Region.binds .any e = true → listed.getD e.on false = true) {k : Nat} (hk : k ∈ o.looksAt l.toArray) (hkm : k ∉ made) :
    a.tmps[k]? = (frs a0 l vals i).tmps[k]? := by
  have hli : ∀ j : Nat, l.toArray[j]? = l[j]? := fun j => List.getElem?_toArray
  by_cases hex : ∃ (j : Nat) (oj : Oper), l.toArray[j]? = some oj ∧ oj.dst = some k
  · obtain ⟨j, oj, hj, dj⟩ := hex
    rcases ok.look i j o oj k hi hj hk dj with ⟨hlt, hw⟩ | ⟨hlt, hw⟩
    · obtain ⟨e, he, hb, hon⟩ := waits_mem hi hw
      have hlj := hall e he hb
      rw [hon] at hlj
      rw [inv.new j oj k hj dj hlj]
      have hrv : rv made D vals γ j oj = vals j := by
        unfold rv
        cases hkd : kd made oj with
        | m d => have := kd_m hkd; rw [dj] at this; injection this.1 with h1; subst h1; exact absurd this.2 hkm
        | q => rfl
        | s d => rfl
      rw [hrv, frs_new a0 l vals k j oj (by rw [← hli]; exact hj) dj (by rw [hN]; exact ok.size j oj k hj dj) (fun j' o' hj' hne hd' => hne (ok.dist j' j o' oj k (by rw [hli]; exact hj') hj hd' dj)) i hlt]
    · have hnl : listed.getD j false = true → False := fun hl => by
        obtain ⟨e, he, hb, hon⟩ := waits_mem hj hw
        have := inv.closed j oj hj hl e he hb
        rw [hon, getD_both hun] at this
        cases this
      rw [inv.old k (fun j' o' hj' hl' hd' => by have := ok.dist j' j o' oj k hj' hj hd' dj; subst this; exact hnl hl'),
        frs_old a0 l vals k i (fun j' o' hlt' hj' hd' => by have := ok.dist j' j o' oj k (by rw [hli]; exact hj') hj hd' dj; omega)]
  · have hno : ∀ (j : Nat) (oj : Oper), l.toArray[j]? = some oj → oj.dst ≠ some k := fun j oj hj hd => hex ⟨j, oj, hj, hd⟩
    rw [inv.old k (fun j oj hj _ => hno j oj hj), frs_old a0 l vals k i (fun j oj _ hj => hno j oj (by rw [hli]; exact hj))]

/-- one more is listed: what stays true of the frame -/
theorem soft_frame (ok : SoftOk made N ops) (hN : a0.tmps.size = N) {listed : Array Bool} {a : Act} {w : World} {γ γ' : Nat → Nat} {σ : Nat → Bool} (inv : SInv W made D ops a0 vals listed a w γ σ)
    {i : Nat} {o : Oper} (hi : ops[i]? = some o) (hun : listed.getD i true = false) (hall : ∀ e ∈ o.after, Region.binds .any e = true → listed.getD e.on false = true) {v : Value} (hv : v = rv made D vals γ' i o)
    (hγ : ∀ (j : Nat) (oj : Oper), ops[j]? = some oj → listed.getD j false = true → rv made D vals γ' j oj = rv made D vals γ j oj) {w' : World} {σ' : Nat → Bool} (hB : Below W.heap.size W w')
    (hmem : ∀ d ∈ made, mL made ops (listed.setIfInBounds i true) d → W.heap.size ≤ γ' d ∧ Blk w' (γ' d) (D d).t (if σ' d then (D d).c1 else (D d).c0))
    (hinj : ∀ d ∈ made, ∀ d' ∈ made, mL made ops (listed.setIfInBounds i true) d → mL made ops (listed.setIfInBounds i true) d' → γ' d = γ' d' → d = d')
    (hsig : ∀ d, σ' d = true → ∃ (j : Nat) (o : Oper), ops[j]? = some o ∧ kd made o = .s d ∧ (listed.setIfInBounds i true).getD j false = true)
    (hsig' : ∀ (d j : Nat) (o : Oper), ops[j]? = some o → kd made o = .s d → (listed.setIfInBounds i true).getD j false = true → σ' d = true) :
    SInv W made D ops a0 vals (listed.setIfInBounds i true) (a.put o.dst v) w' γ' σ' := by
  have hsz : i < listed.size := by rw [inv.size]; exact lt_of_some hi
  refine ⟨by simp [inv.size], fun j oj hj hl e he hb => ?_, by rw [put_size]; exact inv.fsize, by rw [put_defs]; exact inv.defs, fun j oj s hj hd hl => ?_, fun s hs => ?_, hB, hmem, hinj, hsig, hsig'⟩
  · by_cases hij : i = j
    · subst hij
      rw [hi] at hj
      injection hj with hj
      subst hj
      exact getD_set_true (hall e he hb)
    · rw [getD_set_ne false hij] at hl
      exact getD_set_true (inv.closed j oj hj hl e he hb)
  · by_cases hij : i = j
    · subst hij
      rw [hi] at hj
      injection hj with hj
      subst hj
      rw [hd, put_at _ _ _ (by rw [inv.fsize, hN]; exact ok.size i o s hi hd), hv]
    · rw [getD_set_ne false hij] at hl
      rw [put_get _ _ _ _ (fun h => hij (ok.dist i j o oj s hi hj h hd)), inv.new j oj s hj hd hl, hγ j oj hj hl]
  · have h1 : o.dst ≠ some s := hs i o hi (by simp [hsz])
    rw [put_get _ _ _ _ h1]
    exact inv.old s fun j oj hj hl => hs j oj hj (getD_set_true hl)

theorem mL_other {listed : Array Bool} {i : Nat} {o : Oper} (hi : ops[i]? = some o) (hk : ∀ d, kd made o ≠ .m d) {d : Nat} (h : mL made ops (listed.setIfInBounds i true) d) : mL made ops listed d := by
  obtain ⟨j, oj, hj, hkj, hl⟩ := h
  refine ⟨j, oj, hj, hkj, ?_⟩
  by_cases hij : i = j
  · subst hij
    rw [hi] at hj
    injection hj with hj
    subst hj
    exact absurd hkj (hk d)
  · rw [getD_set_ne false hij] at hl
    exact hl
theorem sig_other {listed : Array Bool} {i : Nat} {o : Oper} (hi : ops[i]? = some o) (hk : ∀ d, kd made o ≠ .s d) {j d : Nat} {oj : Oper} (hj : ops[j]? = some oj) (hkj : kd made oj = .s d) (hl : (listed.setIfInBounds i true).getD j false = true) : listed.getD j false = true := by
  by_cases hij : i = j
  · subst hij
    rw [hi] at hj
    injection hj with hj
    subst hj
    exact absurd hkj (hk d)
  · rw [getD_set_ne false hij] at hl
    exact hl

theorem plain_not_enter {o : Oper} (h : plain o = true) (ρ : Operand → Value) (w w' : World) (f : FuncId) (args : Array Value) : (execOp ρ o).run P w ≠ .ok (.enter f args) w' := by
  have key : ∀ s : Sem Value, (do let x ← s; pure (Next.value x) : Sem Next).run P w ≠ .ok (.enter f args) w' := by
    intro s he
    simp only [Sem.run_bind] at he
    cases hs : s.run P w <;> simp [hs, Sem.run_pure] at he
  obtain ⟨dst, op, ty, pos, after, guard⟩ := o
  cases op <;> simp only [plain] at h <;> (try cases h) <;> simp only [execOp]
  case nilCheck x =>
    have ne_bind : ∀ {α : Type} (s : Sem α) (k : α → Sem Next), (∀ a w, (k a).run P w ≠ .ok (.enter f args) w') → ∀ w, (s >>= k).run P w ≠ .ok (.enter f args) w' := by
      intro α s k hk w he
      simp only [Sem.run_bind] at he
      cases hs : s.run P w with
      | ok a w1 => rw [hs] at he; exact hk a w1 he
      | halt x w1 => rw [hs] at he; cases he
    have ne_val : ∀ v w, (pure (Next.value v) : Sem Next).run P w ≠ .ok (.enter f args) w' := fun v w he => by simp [Sem.run_pure] at he
    have ne_map : ∀ {α : Type} (s : Sem α) (v : Value) w, (Functor.map (fun _ => Next.value v) s).run P w ≠ .ok (.enter f args) w' := fun {α} s v w he => by
      have h2 := ne_bind s (fun _ => pure (Next.value v)) (fun _ w => ne_val v w) w
      rw [map_eq_pure_bind] at he
      exact h2 he
    generalize ρ x = v
    split
    all_goals first
      | exact ne_val _ _
      | (intro he; simp [runtimePanic] at he; done)
      | skip
    split
    all_goals first
      | exact ne_val _ _
      | (intro he; simp [runtimePanic] at he; done)
      | skip
    refine ne_bind _ _ (fun a w1 => ne_bind _ _ (fun b w2 => ?_) w1) w
    split
    all_goals first
      | exact ne_val _ _
      | exact ne_bind _ _ (fun _ w3 => ne_val _ w3) _
      | exact ne_map _ _ _
  case pick c x y =>
    intro he
    simp only [Sem.run_bind] at he
    cases hs : (asBool (ρ c)).run P w <;> simp [hs, Sem.run_pure] at he
  all_goals first | exact key _ | (intro he; simp [Sem.run_pure] at he; done)
end
end Go.Proofs.Ytlkgmedenbfhkaa
