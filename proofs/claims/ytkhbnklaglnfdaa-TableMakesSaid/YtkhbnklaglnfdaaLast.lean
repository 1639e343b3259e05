/- A region that draws its order, with a last operation that waits for all others: that one is split off. -/
import Derived.Test.YtkhbnklaglnfdaaGrand2
namespace Go.Proofs.Ytkhbnklaglnfdaa
open Go.RowKit
section
variable {P : Program} {l : List Oper} {o : Oper} {Q : Exit → Act → World → Prop}

/-- then the last operation -/
def thenQ (P : Program) (o : Oper) (Q : Exit → Act → World → Prop) : Exit → Act → World → Prop
  | .normal, a, w => o.wp P a w (fun a w => Q .normal a w) Q
  | e, a, w => Q e a w
theorem thenQ_lets (h : LetsOut (thenQ P o Q)) : LetsOut Q := by
  obtain ⟨a, w, h⟩ := h
  exact ⟨a, w, h⟩
theorem wp_then {x : Oper} {a : Act} {w : World} {K K' : Act → World → Prop} (h : ∀ a w, K a w → K' a w) (hh : x.wp P a w K (thenQ P o Q)) : x.wp P a w K' Q := by
  unfold Oper.wp at *
  generalize (execOp a.eval x).run P w = r at *
  cases r with
  | ok n w' =>
    cases n <;> simp only [Oper.upon] at hh ⊢ <;>
      first
        | exact h _ _ hh
        | exact Calls.mono hh (fun e w'' he => by cases e <;> first | exact h _ _ he | exact he)
        | exact Rows.mono hh (fun _ _ he => h _ _ he)
  | halt y w' => cases y <;> simp only [Oper.upon] at hh ⊢ <;> exact hh
theorem ready_nil {ops : Array Oper} (hback : ∀ (i : Nat) (x : Oper), ops[i]? = some x → ∀ e ∈ x.after, Region.binds .any e = true → e.on < i) {listed : Array Bool} (hs : listed.size = ops.size) (hr : Region.ready .any ops listed = []) : ∀ i, i < ops.size → listed.getD i true = true := by
  intro i
  induction i using Nat.strongRecOn with
  | ind i ih =>
    intro hi
    by_cases hl : listed.getD i true = true
    · exact hl
    · exfalso
      have : i ∈ Region.ready .any ops listed := by
        refine mem_ready.2 ⟨by simpa using hl, ops[i], by simp [hi], fun e he hb => ?_⟩
        have h1 := hback i ops[i] (by simp [hi]) e he hb
        have h2 := ih e.on h1 (by omega)
        have h3 : e.on < listed.size := by omega
        simp [h3] at h2 ⊢
        exact h2
      rw [hr] at this
      cases this
theorem push_set {A : Array Bool} {b v : Bool} {i : Nat} (hi : i < A.size) : (A.push b).setIfInBounds i v = (A.setIfInBounds i v).push b := by
  apply Array.ext'
  simp [List.set_append_left, hi]
theorem push_getD {A : Array Bool} {b d : Bool} {i : Nat} (hi : i < A.size) : (A.push b).getD i d = A.getD i d := by
  simp [hi, Array.getElem?_push, Nat.ne_of_lt hi]
theorem push_in {A : Array Bool} {i : Nat} (h : (A.push false).getD i false = true) : i < A.size := by
  rcases Nat.lt_trichotomy i A.size with h1 | h1 | h1
  · exact h1
  · subst h1; simp at h
  · simp [Array.getElem?_push, Nat.ne_of_gt h1, Array.getElem?_eq_none (Nat.le_of_lt h1)] at h
theorem last_at : (l ++ [o]).toArray[l.length]? = some o := by simp
theorem front_at {i : Nat} (hi : i < l.length) : (l ++ [o]).toArray[i]? = l.toArray[i]? := by rw [List.getElem?_toArray, List.getElem?_toArray, List.getElem?_append_left hi]
theorem ready_last (hlast : ∀ j, j < l.length → ∃ e ∈ o.after, Region.binds .any e = true ∧ e.on = j) {listed : Array Bool} (hs : listed.size = l.length) {i : Nat} (hi : i ∈ Region.ready .any (l ++ [o]).toArray (listed.push false)) :
    (i < l.length ∧ i ∈ Region.ready .any l.toArray listed) ∨ (i = l.length ∧ Region.ready .any l.toArray listed = [] ∧ ∀ j, j < l.length → listed.getD j true = true) := by
  obtain ⟨h1, x, hx, h2⟩ := mem_ready.1 hi
  have hil : i < (l ++ [o]).toArray.size := lt_of_some hx
  simp at hil
  by_cases h : i < l.length
  · refine .inl ⟨h, mem_ready.2 ⟨by rwa [push_getD (by omega)] at h1, x, by rwa [front_at h] at hx, fun e he hb => ?_⟩⟩
    have h3 := h2 e he hb
    have h4 := push_in h3
    rwa [push_getD h4] at h3
  · obtain rfl : i = l.length := by omega
    rw [last_at] at hx
    injection hx with hx
    subst hx
    have hall : ∀ j, j < l.length → listed.getD j true = true := fun j hj => by
      obtain ⟨e, he, hb, rfl⟩ := hlast j hj
      have h3 := h2 e he hb
      rw [push_getD (by omega)] at h3
      exact getD_of h3
    refine .inr ⟨rfl, ?_, hall⟩
    rw [List.eq_nil_iff_forall_not_mem]
    intro j hj
    obtain ⟨h5, y, hy, _⟩ := mem_ready.1 hj
    have := hall j (by simpa using lt_of_some hy)
    rw [h5] at this
    cases this
theorem done_any {ops : Array Oper} {listed : Array Bool} (h : ∀ j, j < ops.size → listed.getD j true = true) {a : Act} {w : World} (hq : Q .normal a w) : ∀ n, wpAny P .any ops Q n listed a w := by
  have hr : Region.ready .any ops listed = [] := by
    rw [List.eq_nil_iff_forall_not_mem]
    intro j hj
    obtain ⟨h5, y, hy, _⟩ := mem_ready.1 hj
    have := h j (lt_of_some hy)
    rw [h5] at this
    cases this
  intro n
  cases n with
  | zero => exact ⟨hr, hq⟩
  | succ n => exact ⟨fun _ => hq, fun i hi => by rw [hr] at hi; cases hi⟩
theorem any_last (hback : ∀ (i : Nat) (x : Oper), (l ++ [o]).toArray[i]? = some x → ∀ e ∈ x.after, Region.binds .any e = true → e.on < i) (hg : ∀ x ∈ l, x.guard = none) (hgo : o.guard = none) (hlast : ∀ j, j < l.length → ∃ e ∈ o.after, Region.binds .any e = true ∧ e.on = j) :
    ∀ (fuel : Nat) (listed : Array Bool) (a : Act) (w : World), listed.size = l.length → wpAny P .any l.toArray (thenQ P o Q) fuel listed a w → wpAny P .any (l ++ [o]).toArray Q (fuel + 1) (listed.push false) a w := by
  have hne : ∀ listed : Array Bool, listed.size = l.length → Region.ready .any (l ++ [o]).toArray (listed.push false) ≠ [] := fun listed hs hr => by
    have := ready_nil hback (by simp [hs]) hr l.length (by simp)
    rw [← hs] at this
    simp at this
  have fin : ∀ (listed : Array Bool) (a : Act) (w : World) (n : Nat), listed.size = l.length → (∀ j, j < l.length → listed.getD j true = true) → thenQ P o Q .normal a w → wpOp P (l ++ [o]).toArray Q l.length (wpAny P .any (l ++ [o]).toArray Q n ((listed.push false).setIfInBounds l.length true)) a w := fun listed a w n hs hall hq => by
    unfold wpOp
    rw [last_at]
    simp only
    rw [if_pos (by simp [Region.wanted, hgo])]
    refine .inl (Oper.wp_mono (fun a w hn => done_any (fun j hj => ?_) hn n) hq)
    simp at hj
    rw [← hs, show (listed.push false).setIfInBounds listed.size true = listed.push true by apply Array.ext'; simp]
    by_cases h : j < listed.size
    · rw [push_getD h]; exact hall j (by omega)
    · obtain rfl : j = listed.size := by omega
      simp
  intro fuel
  induction fuel with
  | zero =>
    intro listed a w hs h
    refine ⟨fun hr => absurd hr (hne listed hs), fun i hi => ?_⟩
    rcases ready_last hlast hs hi with ⟨_, h2⟩ | ⟨rfl, _, hall⟩
    · rw [h.1] at h2; cases h2
    · exact fin listed a w 0 hs hall h.2
  | succ fuel ih =>
    intro listed a w hs h
    refine ⟨fun hr => absurd hr (hne listed hs), fun i hi => ?_⟩
    rcases ready_last hlast hs hi with ⟨h1, h2⟩ | ⟨rfl, hr, hall⟩
    · have h3 := h.2 i h2
      obtain ⟨_, x, hx, _⟩ := mem_ready.1 h2
      have hxl : x ∈ l := by
        have := List.mem_of_getElem? (l := l) (by simpa using hx)
        exact this
      unfold wpOp at h3 ⊢
      rw [front_at h1]
      rw [hx] at h3 ⊢
      simp only at h3 ⊢
      rw [if_pos (by simp [Region.wanted, hg x hxl])] at h3 ⊢
      rw [push_set (by omega)]
      exact h3.imp (wp_then fun a w hk => ih _ _ _ (by simp [hs]) hk) (fun h => ⟨h.1, thenQ_lets h.2⟩)
    · exact fin listed a w (fuel + 1) hs hall (h.1 hr)
/-- the last one waits for all others; nothing is guarded -/
def lastB (l0 : List Oper) : Bool := match l0.getLast? with
  | some o => ((List.range l0.length).all fun i => backB l0.toArray i) && (l0.dropLast.all fun x => x.guard.isNone) && o.guard.isNone && ((List.range l0.dropLast.length).all fun j => o.after.any fun e => Region.binds .any e && e.on == j)
  | none => false
/-- as wp_region_grand, of the orders themselves -/
theorem any_grand {a : Act} {w0 : World} (C : World → Prop) (Z : Nat → World → World → Prop) (made : List Nat) (S : Nat → Value → World → Prop) (T : List Nat) (pt : List (List Nat)) (N : Nat) (h0 : C w0.drew) (hZ : ∀ i w w', C w → Z i w w' → C w')
    (hS : ∀ i, ∀ d ∈ made, dstOf l.toArray i ≠ some d → ∀ v w w', C w → S d v w → Z i w w' → S d v w') (hB : grandB T made pt N l.toArray = true) (hN : a.tmps.size = N)
    (h : wpG P l.toArray T C Z made S (fun aF => ∀ (γ : Nat → Value) (w : World), C w → (∀ d ∈ made, S d (γ d) w) → wpList P l.toArray (onlyN Q) (T.filterMap fun t => l[t]?) (putG γ made aF) w) 0 l a) :
    wpAny P .any l.toArray Q l.toArray.size (Array.replicate l.toArray.size false) a w0.drew := by
  have ok := grand_spec hB
  obtain ⟨vals, hok, hfin⟩ := g_ext l 0 a h
  have hf : ∀ j, (Array.replicate l.toArray.size false).getD j false = true → False := fun j hj => by rw [getD_replicate_false] at hj; cases hj
  refine grand_any (vals := vals) hZ hS ok hN (fun j o hj => by have := hok j o hj; rwa [Nat.zero_add] at this) hfin l.toArray.size _ a _ (fun _ => undef) 0 a ⟨by simp, fun j oj _ hl => (hf j hl).elim, hN, Nat.zero_le _, fun k hk => absurd hk (Nat.not_lt_zero _), fun k _ hk => ?_, fun j o s _ _ _ hl => (hf j hl).elim, fun s _ => rfl, fun _ => ⟨h0, rfl, fun d _ ⟨j, o, _, _, hl⟩ => (hf j hl).elim⟩, ⟨_, h0, fun d _ ⟨j, o, _, _, hl⟩ => (hf j hl).elim⟩, fun h => absurd h (Nat.lt_irrefl _)⟩ (by simp [cnt])
  have hin : T.getD k 0 < l.toArray.size := ok.tin _ (by rw [getD_elem hk]; exact List.getElem_mem hk)
  exact getD_in (by simpa using hin) (getD_replicate_false _ _)
/-- all but the last operation, by the law wp_region_grand; then the last -/
theorem wp_region_grand_last {id : Nat} {l0 : List Oper} {a : Act} {w0 : World} (C : World → Prop) (Z : Nat → World → World → Prop) (made : List Nat) (S : Nat → Value → World → Prop) (T : List Nat) (pt : List (List Nat)) (N : Nat) (h0 : C w0.drew) (hZ : ∀ i w w', C w → Z i w w' → C w')
    (hS : ∀ i, ∀ d ∈ made, dstOf l0.dropLast.toArray i ≠ some d → ∀ v w w', C w → S d v w → Z i w w' → S d v w') (hm : P.follows .mixedOrders = true) (hB : grandB T made pt N l0.dropLast.toArray = true) (hL : lastB l0 = true) (hN : a.tmps.size = N)
    (h : ∀ l o, l0.dropLast = l → l0.getLast? = some o → wpG P l.toArray T C Z made S (fun aF => ∀ (γ : Nat → Value) (w : World), C w → (∀ d ∈ made, S d (γ d) w) → wpList P l.toArray (onlyN (thenQ P o Q)) (T.filterMap fun t => l[t]?) (putG γ made aF) w) 0 l a) :
    (Code.region id l0.toArray true).wp P Q a w0 := by
  unfold lastB at hL
  cases hl : l0.getLast? with
  | none => rw [hl] at hL; simp at hL
  | some o =>
    rw [hl] at hL
    simp only [Bool.and_eq_true, List.all_eq_true, List.mem_range] at hL
    obtain ⟨⟨⟨h1, h2⟩, h3⟩, h4⟩ := hL
    have he : l0 = l0.dropLast ++ [o] := by
      obtain ⟨ys, hy⟩ := List.getLast?_eq_some_iff.1 hl
      rw [hy, List.dropLast_concat]
    refine wp_region_any hm ?_
    have hA := any_grand (Q := thenQ P o Q) C Z made S T pt N h0 hZ hS hB hN (h _ o rfl hl)
    have hK := any_last (o := o) (l := l0.dropLast) (Q := Q) (fun i x hx e hee hb => ?_) (fun x hx => by simpa using h2 x hx) (by simpa using h3) (fun j hj => ?_) _ _ _ _ (by simp) hA
    · rw [← he] at hK
      have hz : l0.toArray.size = l0.dropLast.toArray.size + 1 := by
        have := congrArg List.length he
        simpa using this
      rw [hz, show Array.replicate (l0.dropLast.toArray.size + 1) false = (Array.replicate l0.dropLast.toArray.size false).push false by apply Array.ext'; simp [List.replicate_succ']]
      exact hK
    · rw [← he] at hx
      have := h1 i (by simpa using lt_of_some hx)
      unfold backB at this
      rw [hx] at this
      have := Array.all_eq_true'.1 this e hee
      simpa [hb] using this
    · have := h4 j hj
      obtain ⟨e, hee, hq⟩ := Array.any_eq_true'.1 this
      simp only [Bool.and_eq_true, beq_iff_eq] at hq
      exact ⟨e, hee, hq.1, hq.2⟩
theorem then_assign {a : Act} {w : World} (x : Operand) (ho : o.op = .assign x) (v : Value) (hx : a.eval x = v) (h : Q .normal (a.put o.dst v) w) : thenQ P o Q .normal a w := by
  unfold thenQ Oper.wp execOp
  simp only [ho, hx]
  exact h
end
end Go.Proofs.Ytkhbnklaglnfdaa
