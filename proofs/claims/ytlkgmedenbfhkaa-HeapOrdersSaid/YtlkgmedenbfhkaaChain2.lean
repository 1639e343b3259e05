/- The law of a region whose world-turning operations stand in a row (see Chain): every order. -/
import Derived.Test.YtlkgmedenbfhkaaChain
namespace Go.Proofs.Ytlkgmedenbfhkaa
open Go.RowKit

section
variable {P : Program} {T : List Nat} {C : World → Prop} {l : List Oper} {a0 : Act} {vals : Nat → Value} {N : Nat} {Q : Exit → Act → World → Prop}

structure CInv (P : Program) (T : List Nat) (C : World → Prop) (l : List Oper) (a0 : Act) (vals : Nat → Value) (N : Nat) (Q : Exit → Act → World → Prop) (listed : Array Bool) (a : Act) (w : World) (p : Nat) (b : Act) : Prop where
  size : listed.size = l.toArray.size
  closed : ∀ (j : Nat) (oj : Oper), l.toArray[j]? = some oj → listed.getD j false = true → ∀ e ∈ oj.after, Region.binds .any e = true → listed.getD e.on false = true
  fsize : a.tmps.size = N
  bsize : b.tmps.size = N
  defs : a.defers = b.defers
  pl : p ≤ T.length
  on_ : ∀ k, k < p → listed.getD (T.getD k 0) false = true
  off : ∀ k, p ≤ k → k < T.length → listed.getD (T.getD k 0) true = false
  bn : ∀ (j : Nat) (o : Oper) (s : Nat), l.toArray[j]? = some o → j ∉ T → o.dst = some s → b.tmps[s]? = some (vals j)
  bo : ∀ s : Nat, (∀ (j : Nat) (o : Oper), l.toArray[j]? = some o → o.dst ≠ some s) → b.tmps[s]? = a0.tmps[s]?
  ag : ∀ (j : Nat) (o : Oper) (s : Nat), l.toArray[j]? = some o → o.dst = some s → listed.getD j false = true → a.tmps[s]? = b.tmps[s]?
  old : ∀ s : Nat, (∀ (j : Nat) (o : Oper), l.toArray[j]? = some o → listed.getD j false = true → o.dst ≠ some s) → a.tmps[s]? = a0.tmps[s]?
  st : if p = 0 then C w ∧ (∀ w', C w' → wpList P l.toArray (onlyN Q) (T.filterMap fun t => l[t]?) b w') else wpList P l.toArray (onlyN Q) ((T.drop p).filterMap fun t => l[t]?) b w

theorem getD_of {a : Array Bool} {i : Nat} (h : a.getD i false = true) : a.getD i true = true := by
  rcases Nat.lt_or_ge i a.size with h' | h'
  · simp [h'] at h ⊢; exact h
  · simp [Array.getElem?_eq_none h'] at h
theorem lets_only : ¬ LetsOut (onlyN Q) := fun ⟨_, _, h⟩ => h
theorem getD_elem {l : List Nat} {k : Nat} (h : k < l.length) : l.getD k 0 = l[k] := by simp [List.getD, h]

theorem chain_any (ok : ChainOk T N l.toArray) (hN : a0.tmps.size = N) (hok : ∀ (j : Nat) (o : Oper), l[j]? = some o → CAt P l.toArray T C j o (frs a0 l vals j) (vals j)) :
    ∀ (fuel : Nat) (listed : Array Bool) (a : Act) (w : World) (p : Nat) (b : Act), CInv P T C l a0 vals N Q listed a w p b → cnt listed = fuel → wpAny P .any l.toArray Q fuel listed a w := by
  have hli : ∀ j : Nat, l.toArray[j]? = l[j]? := fun j => List.getElem?_toArray
  have fin : ∀ (listed : Array Bool) (a : Act) (w : World) (p : Nat) (b : Act), CInv P T C l a0 vals N Q listed a w p b → (∀ i, i < listed.size → listed.getD i false = true) → Q .normal a w := by
    intro listed a w p b inv hall
    have all : ∀ (j : Nat) (o : Oper), l.toArray[j]? = some o → listed.getD j false = true := fun j o hj => hall j (by rw [inv.size]; exact lt_of_some hj)
    have hp : p = T.length := by
      rcases Nat.lt_or_ge p T.length with h | h
      · exfalso
        have h1 := inv.off p (Nat.le_refl _) h
        have h2 : T.getD p 0 < listed.size := by
          rw [inv.size]
          refine ok.tin _ ?_
          rw [getD_elem h]
          exact List.getElem_mem h
        have h3 := getD_of (hall _ h2)
        rw [h1] at h3
        cases h3
      · exact Nat.le_antisymm inv.pl h
    have hab : a = b := by
      have e1 : a.tmps = b.tmps := by
        apply Array.ext_getElem?
        intro k
        by_cases hex : ∃ (j : Nat) (oj : Oper), l.toArray[j]? = some oj ∧ oj.dst = some k
        · obtain ⟨j, oj, hj, dj⟩ := hex
          exact inv.ag j oj k hj dj (all j oj hj)
        · have hno : ∀ (j : Nat) (oj : Oper), l.toArray[j]? = some oj → oj.dst ≠ some k := fun j oj hj hd => hex ⟨j, oj, hj, hd⟩
          rw [inv.old k (fun j oj hj _ => hno j oj hj), inv.bo k hno]
      have e2 := inv.defs
      obtain ⟨t1, d1⟩ := a
      obtain ⟨t2, d2⟩ := b
      simp only at e1 e2
      subst e1 e2
      rfl
    have hst := inv.st
    rw [if_neg (by rw [hp]; intro e; exact ok.ne (List.eq_nil_of_length_eq_zero e)), hp, List.drop_of_length_le (Nat.le_refl _)] at hst
    rw [hab]
    exact hst
  intro fuel
  induction fuel with
  | zero =>
    intro listed a w p b inv hc
    have hall : ∀ i, i < listed.size → listed.getD i false = true := fun i hi => cnt_zero hc i hi
    refine ⟨?_, fin listed a w p b inv hall⟩
    rw [List.eq_nil_iff_forall_not_mem]
    intro i hi
    obtain ⟨h1, o, ho, _⟩ := mem_ready.1 hi
    have h2 := hall i (by rw [inv.size]; exact lt_of_some ho)
    rw [getD_both h1] at h2
    cases h2
  | succ fuel ih =>
    intro listed a w p b inv hc
    constructor
    · intro hr
      exfalso
      have hex : ∃ i, i < listed.size ∧ listed.getD i false = false := by
        refine Classical.byContradiction fun hne => ?_
        have hall : ∀ i, i < listed.size → listed.getD i false = true := fun i hi => by
          cases h : listed.getD i false with
          | true => rfl
          | false => exact absurd ⟨i, hi, h⟩ hne
        have : cnt listed = 0 := by
          unfold cnt
          rw [List.length_eq_zero_iff, List.filter_eq_nil_iff]
          intro b hb
          obtain ⟨i, hi, he⟩ := List.mem_iff_getElem.1 hb
          have h1 := hall i (by simpa using hi)
          have hi' : i < listed.size := by simpa using hi
          simp [hi'] at h1
          simp at he
          rw [← he, h1]
          simp
        omega
      obtain ⟨i0, hi0, hu0⟩ := hex
      have hmin : ∃ i, i < listed.size ∧ listed.getD i false = false ∧ ∀ j, j < i → listed.getD j false = true := by
        induction i0 using Nat.strongRecOn with
        | _ i0 ihm =>
          by_cases h : ∃ j, j < i0 ∧ listed.getD j false = false
          · obtain ⟨j, hj, hju⟩ := h
            exact ihm j hj (by omega) hju
          · refine ⟨i0, hi0, hu0, fun j hj => ?_⟩
            cases hjv : listed.getD j false with
            | true => rfl
            | false => exact absurd ⟨j, hj, hjv⟩ h
      obtain ⟨i, hi, hu, hlt⟩ := hmin
      have hil : i < l.toArray.size := by rw [← inv.size]; exact hi
      have : i ∈ Region.ready .any l.toArray listed := mem_ready.2 ⟨getD_in hi hu, l.toArray[i], by simp [Array.getElem?_eq_getElem hil], fun e he hb => hlt _ (ok.back i _ (Array.getElem?_eq_getElem hil) e he hb)⟩
      rw [hr] at this
      cases this
    · intro i hi
      obtain ⟨hun, o, ho, hall⟩ := mem_ready.1 hi
      have hol : l[i]? = some o := by rw [← List.getElem?_toArray]; exact ho
      have hcn : cnt (listed.setIfInBounds i true) = fuel := by have := cnt_step hun; omega
      have hsz : i < listed.size := by rw [inv.size]; exact lt_of_some ho
      have listedOf : ∀ j, Region.waitsFor .any l.toArray i j = true → listed.getD j false = true := fun j hw => by
        obtain ⟨e, he, hb, hon⟩ := waits_mem ho hw
        have := hall e he hb
        rw [hon] at this
        exact this
      have notListed : ∀ (j : Nat) (oj : Oper), l.toArray[j]? = some oj → Region.waitsFor .any l.toArray j i = true → listed.getD j false = true → False := fun j oj hj hw hl => by
        obtain ⟨e, he, hb, hon⟩ := waits_mem hj hw
        have := inv.closed j oj hj hl e he hb
        rw [hon, getD_both hun] at this
        cases this
      have closed' : ∀ (j : Nat) (oj : Oper), l.toArray[j]? = some oj → (listed.setIfInBounds i true).getD j false = true → ∀ e ∈ oj.after, Region.binds .any e = true → (listed.setIfInBounds i true).getD e.on false = true := fun j oj hj hl e he hb => by
        by_cases hij : i = j
        · subst hij
          rw [ho] at hj
          injection hj with hj
          subst hj
          exact getD_set_true (hall e he hb)
        · rw [getD_set_ne false hij] at hl
          exact getD_set_true (inv.closed j oj hj hl e he hb)
      by_cases hT : i ∈ T
      · -- one of the row
        obtain ⟨k, hkl, hki⟩ := List.getElem_of_mem hT
        have hkD : T.getD k 0 = i := by rw [getD_elem hkl, hki]
        have hpk : p ≤ k := by
          rcases Nat.lt_or_ge k p with h | h
          · have := getD_of (inv.on_ k h)
            rw [hkD, hun] at this
            cases this
          · exact h
        have hkp : k = p := by
          refine Nat.le_antisymm ?_ hpk
          refine Classical.byContradiction fun hlt => ?_
          have hk1 : k - 1 + 1 = k := by omega
          have h1 := ok.row (k - 1) (by omega)
          rw [hk1, hkD] at h1
          have h2 := getD_of (listedOf _ h1)
          rw [inv.off (k - 1) (by omega) (by omega)] at h2
          cases h2
        subst hkp
        have hag : ∀ s ∈ o.looksAt l.toArray, a.tmps[s]? = b.tmps[s]? := fun s hs => by
          by_cases hex : ∃ (j : Nat) (oj : Oper), l.toArray[j]? = some oj ∧ oj.dst = some s
          · obtain ⟨j, oj, hj, dj⟩ := hex
            exact inv.ag j oj s hj dj (listedOf j (ok.tl i j o oj s ho hT hs hj dj))
          · have hno : ∀ (j : Nat) (oj : Oper), l.toArray[j]? = some oj → oj.dst ≠ some s := fun j oj hj hd => hex ⟨j, oj, hj, hd⟩
            rw [inv.old s (fun j oj hj _ => hno j oj hj), inv.bo s hno]
        have hx := exec_agree o (fun cs b => ok.sel i o cs b ho) hag
        have hgd := ok.tg i o ho hT
        have hst : wpList P l.toArray (onlyN Q) ((T.drop k).filterMap fun t => l[t]?) b w := by
          have := inv.st
          by_cases h0 : k = 0
          · subst h0
            rw [if_pos rfl] at this
            exact this.2 w this.1
          · rw [if_neg h0] at this
            exact this
        have hdrop : (T.drop k).filterMap (fun t => l[t]?) = o :: (T.drop (k + 1)).filterMap (fun t => l[t]?) := by
          rw [List.drop_eq_getElem_cons hkl, List.filterMap_cons, hki, hol]
        rw [hdrop] at hst
        unfold wpList at hst
        rw [if_pos (by unfold Region.wanted; rw [hgd])] at hst
        have hwp : o.wp P b w (wpList P l.toArray (onlyN Q) ((T.drop (k + 1)).filterMap fun t => l[t]?)) (onlyN Q) := hst.resolve_right (fun h => lets_only h.2)
        have next : ∀ (ds : List _) (v : Value) (w' : World), wpList P l.toArray (onlyN Q) ((T.drop (k + 1)).filterMap fun t => l[t]?) ({ b with defers := ds }.put o.dst v) w' → wpAny P .any l.toArray Q fuel (listed.setIfInBounds i true) ({ a with defers := ds }.put o.dst v) w' := by
          intro ds v w' h
          refine ih _ _ _ (k + 1) ({ b with defers := ds }.put o.dst v) ⟨by simp [inv.size], closed', by rw [put_size]; exact inv.fsize, by rw [put_size]; exact inv.bsize, by rw [put_defs, put_defs], hkl, fun k' hk' => ?_, fun k' hk' hk2 => ?_, fun j oj s hj hjT hd => ?_, fun s hs => ?_, fun j oj s hj hd hl => ?_, fun s hs => ?_, ?_⟩ hcn
          · by_cases e : k' = k
            · subst e
              rw [hkD]
              simp [hsz]
            · exact getD_set_true (inv.on_ k' (by omega))
          · have hne : i ≠ T.getD k' 0 := fun e => by
              have h1 := listedOf
              have h2 : ∀ m, k < m → m < T.length → T.getD m 0 ≠ i := by
                intro m hm hml e2
                have h3 := ok.row (m - 1) (by omega)
                rw [show m - 1 + 1 = m by omega, e2] at h3
                have h4 := getD_of (listedOf _ h3)
                rw [inv.off (m - 1) (by omega) (by omega)] at h4
                cases h4
              exact h2 k' (by omega) hk2 e.symm
            rw [getD_set_ne true hne]
            exact inv.off k' (by omega) hk2
          · have hne : o.dst ≠ some s := fun e => hjT (by rw [ok.dist j i oj o s hj ho hd e]; exact hT)
            rw [put_get _ _ _ _ hne]
            exact inv.bn j oj s hj hjT hd
          · rw [put_get _ _ _ _ (hs i o ho)]
            exact inv.bo s hs
          · by_cases hij : i = j
            · subst hij
              rw [ho] at hj
              injection hj with hj
              subst hj
              rw [hd, put_at _ _ _ (by show s < a.tmps.size; rw [inv.fsize]; exact ok.size i o s ho hd), put_at _ _ _ (by show s < b.tmps.size; rw [inv.bsize]; exact ok.size i o s ho hd)]
            · rw [getD_set_ne false hij] at hl
              have hne : o.dst ≠ some s := fun e => hij (ok.dist i j o oj s ho hj e hd)
              rw [put_get _ _ _ _ hne, put_get _ _ _ _ hne]
              exact inv.ag j oj s hj hd hl
          · have h1 : o.dst ≠ some s := hs i o ho (by simp [hsz])
            rw [put_get _ _ _ _ h1]
            exact inv.old s fun j oj hj hl => hs j oj hj (getD_set_true hl)
          · rw [if_neg (by omega)]
            exact h
        unfold wpOp
        simp only [ho]
        rw [if_pos (by unfold Region.wanted; rw [hgd])]
        left
        unfold Oper.wp at hwp ⊢
        rw [hx]
        have ea : ∀ v, a.put o.dst v = ({ a with defers := a.defers } : Act).put o.dst v := fun v => rfl
        have eb : ∀ v, b.put o.dst v = ({ b with defers := a.defers } : Act).put o.dst v := fun v => by rw [inv.defs]
        generalize (execOp b.eval o).run P w = r at *
        cases r with
        | ok n w' =>
          cases n <;> simp only [Oper.upon] at hwp ⊢
          case value u => rw [ea]; exact next _ _ _ (by rw [← eb]; exact hwp)
          case skip => rw [ea]; exact next _ _ _ (by rw [← eb]; exact hwp)
          case row r args => exact hwp.mono fun v w'' h => by rw [ea]; exact next _ _ _ (by rw [← eb]; exact h)
          case enter f args =>
            refine hwp.mono fun e w'' h => ?_
            cases e with
            | returned v => simp only at h ⊢; rw [ea]; exact next _ _ _ (by rw [← eb]; exact h)
            | panicked c => simp only [onlyN] at h
            | outgrown => exact absurd h lets_only
          rw [inv.defs]; exact next _ _ _ hwp
        | halt x w' =>
          cases x <;> simp only [Oper.upon, onlyN] at hwp
      · -- another one
        have hO := hok i o hol
        have agree : ∀ s ∈ o.looksAt l.toArray, a.tmps[s]? = (frs a0 l vals i).tmps[s]? := fun s hs => by
          by_cases hex : ∃ (j : Nat) (oj : Oper), l.toArray[j]? = some oj ∧ oj.dst = some s
          · obtain ⟨j, oj, hj, dj⟩ := hex
            have hjT := ok.nl i j o oj s ho hT hs hj dj
            rcases ok.look i j o oj s ho hj hs dj with ⟨hlt, hw⟩ | ⟨hlt, hw⟩
            · rw [inv.ag j oj s hj dj (listedOf j hw), inv.bn j oj s hj hjT dj]
              have hs0 : s < a0.tmps.size := by
                rw [hN]; exact ok.size j oj s hj dj
              rw [frs_new a0 l vals s j oj (by rw [← hli]; exact hj) dj hs0 (fun j' o' hj' hne hd' => hne (ok.dist j' j o' oj s (by rw [hli]; exact hj') hj hd' dj)) i hlt]
            · have hnl : listed.getD j false = true → False := notListed j oj hj hw
              rw [inv.old s (fun j' o' hj' hl' hd' => by have := ok.dist j' j o' oj s hj' hj hd' dj; subst this; exact hnl hl'),
                frs_old a0 l vals s i (fun j' o' hlt' hj' hd' => by have := ok.dist j' j o' oj s (by rw [hli]; exact hj') hj hd' dj; omega)]
          · have hno : ∀ (j : Nat) (oj : Oper), l.toArray[j]? = some oj → oj.dst ≠ some s := fun j oj hj hd => hex ⟨j, oj, hj, hd⟩
            rw [inv.old s (fun j oj hj _ => hno j oj hj), frs_old a0 l vals s i (fun j oj _ hj => hno j oj (by rw [hli]; exact hj))]
        have hx := exec_agree o (fun cs b => ok.sel i o cs b ho) agree
        have hw := want_agree o agree
        have hnT : ∀ k, k < T.length → T.getD k 0 ≠ i := fun k hk e => hT (by rw [← e, getD_elem hk]; exact List.getElem_mem hk)
        have next : ∀ w', (if p = 0 then C w' ∧ (∀ w', C w' → wpList P l.toArray (onlyN Q) (T.filterMap fun t => l[t]?) b w') else wpList P l.toArray (onlyN Q) ((T.drop p).filterMap fun t => l[t]?) b w') →
            wpAny P .any l.toArray Q fuel (listed.setIfInBounds i true) (a.put o.dst (vals i)) w' := by
          intro w' h
          refine ih _ _ _ p b ⟨by simp [inv.size], closed', by rw [put_size]; exact inv.fsize, inv.bsize, by rw [put_defs]; exact inv.defs, inv.pl, fun k' hk' => getD_set_true (inv.on_ k' hk'), fun k' hk' hk2 => ?_, inv.bn, inv.bo, fun j oj s hj hd hl => ?_, fun s hs => ?_, h⟩ hcn
          · rw [getD_set_ne true (fun e => hnT k' hk2 e.symm)]
            exact inv.off k' hk' hk2
          · by_cases hij : i = j
            · subst hij
              rw [ho] at hj
              injection hj with hj
              subst hj
              rw [hd, put_at _ _ _ (by rw [inv.fsize]; exact ok.size i o s ho hd), inv.bn i o s ho hT hd]
            · rw [getD_set_ne false hij] at hl
              have hne : o.dst ≠ some s := fun e => hij (ok.dist i j o oj s ho hj e hd)
              rw [put_get _ _ _ _ hne]
              exact inv.ag j oj s hj hd hl
          · have h1 : o.dst ≠ some s := hs i o ho (by simp [hsz])
            rw [put_get _ _ _ _ h1]
            exact inv.old s fun j oj hj hl => hs j oj hj (getD_set_true hl)
        have same : wpAny P .any l.toArray Q fuel (listed.setIfInBounds i true) (a.put o.dst (vals i)) w := next w inv.st
        unfold wpOp
        simp only [ho]
        rcases hO with hO | ⟨hw1, hq⟩ | ⟨hw1, hv⟩
        · exact absurd (by simpa using hO) hT
        · rw [if_pos (hw.trans hw1)]
          left
          unfold Oper.wp
          rw [hx]
          unfold COk at hq
          by_cases hf : freeOp o = true
          · rw [if_pos hf] at hq
            have h3 := hq w ⟨⟨w⟩, rfl⟩
            have hpl := free_plain hf
            unfold Oper.quietAt at h3
            have hne := fun w' f args => plain_not_enter (P := P) hpl (frs a0 l vals i).eval w w' f args
            generalize (execOp (frs a0 l vals i).eval o).run P w = r at *
            cases r with
            | ok n w' =>
              cases n <;> simp only [Oper.quietUpon] at h3 <;> simp only [Oper.upon]
              case value u => obtain ⟨e1, e2⟩ := h3; rw [e1, e2]; exact same
              case skip => obtain ⟨e1, e2⟩ := h3; rw [e1, ← e2]; exact same
              case enter f args => exact absurd rfl (hne w' f args)
            | halt x w' => simp only [Oper.quietUpon] at h3
          · rw [if_neg hf] at hq
            have hwt := (ok.fr i o ho hT).resolve_left hf
            have hT0 : 0 < T.length := List.length_pos_iff.2 ok.ne
            have hh : T.headD 0 = T.getD 0 0 := by cases T <;> rfl
            have hp0 : p = 0 := by
              refine Classical.byContradiction fun hne => ?_
              have h1 := inv.on_ 0 (by omega)
              rw [← hh] at h1
              have hin : T.headD 0 ∈ T := by rw [hh, getD_elem hT0]; exact List.getElem_mem hT0
              exact notListed (T.headD 0) _ (Array.getElem?_eq_getElem (ok.tin _ hin)) hwt h1
            have hst := inv.st
            rw [if_pos hp0] at hst
            have h3 := hq w hst.1
            have nx : ∀ w', C w' → wpAny P .any l.toArray Q fuel (listed.setIfInBounds i true) (a.put o.dst (vals i)) w' := fun w' hC => next w' (by rw [if_pos hp0]; exact ⟨hC, hst.2⟩)
            unfold Oper.quietAt at h3
            generalize (execOp (frs a0 l vals i).eval o).run P w = r at *
            cases r with
            | ok n w' =>
              cases n <;> simp only [Oper.quietUpon] at h3 <;> simp only [Oper.upon]
              case value u => obtain ⟨e1, e2⟩ := h3; rw [e1, e2]; exact same
              case skip => obtain ⟨e1, e2⟩ := h3; rw [e1, ← e2]; exact same
              case enter f args => obtain ⟨e1, hc1⟩ := h3; rw [e1]; exact hc1.mono fun e w'' ⟨he, hb⟩ => by subst he; exact nx w'' hb
            | halt x w' => simp only [Oper.quietUpon] at h3
        · rw [if_neg (by rw [hw, hw1]; simp), ← hv]
          exact same

/-- ONE WALK OF THE OPERATIONS THAT DO NOT TURN THE WORLD, THEN THE ROW OF THOSE THAT DO: EVERY ORDER. -/
theorem wp_region_chain {id : Nat} {a : Act} {w0 : World} (T : List Nat) (N : Nat) (hm : P.follows .mixedOrders = true) (hB : chainB T N l.toArray = true) (hN : a.tmps.size = N)
    (h : wpCh P l.toArray T (fun w => ∃ n, w = w0.drewN n) (fun aF => ∀ n, wpList P l.toArray (onlyN Q) (T.filterMap fun t => l[t]?) aF (w0.drewN n)) 0 l a) : (Code.region id l.toArray true).wp P Q a w0 := by
  have ok := chain_spec hB
  obtain ⟨vals, hok, hfin⟩ := ch_ext l 0 a h
  have hli : ∀ j : Nat, l.toArray[j]? = l[j]? := fun j => List.getElem?_toArray
  refine wp_region_any hm ?_
  have hf : ∀ j, (Array.replicate l.toArray.size false).getD j false = true → False := fun j hj => by rw [getD_replicate_false] at hj; cases hj
  refine chain_any (C := fun w => ∃ n, w = w0.drewN n) (vals := vals) ok hN (fun j o hj => by have := hok j o hj; rwa [Nat.zero_add] at this) l.toArray.size _ a _ 0 (frs a l vals l.length) ⟨by simp, fun j oj _ hl => (hf j hl).elim, hN, by rw [(frs_size a l vals _).1]; exact hN, by rw [(frs_size a l vals _).2], Nat.zero_le _, fun k hk => absurd hk (Nat.not_lt_zero _), fun k _ hk => ?_, fun j o s hj hjT hd => ?_, fun s hs => ?_, fun j o s _ _ hl => (hf j hl).elim, fun s _ => rfl, ?_⟩ (by simp [cnt])
  · have hin : T.getD k 0 < l.toArray.size := ok.tin _ (by rw [getD_elem hk]; exact List.getElem_mem hk)
    exact getD_in (by simpa using hin) (getD_replicate_false _ _)
  · have hj' : l[j]? = some o := by rw [← hli]; exact hj
    exact frs_new a l vals s j o hj' hd (by rw [hN]; exact ok.size j o s hj hd) (fun j' o' h' hne hd' => hne (ok.dist j' j o' o s (by rw [hli]; exact h') hj hd' hd)) l.length (List.getElem?_eq_some_iff.1 hj').1
  · exact frs_old a l vals s l.length (fun j o _ hj => hs j o (by rw [hli]; exact hj))
  · rw [if_pos rfl]
    exact ⟨⟨1, rfl⟩, fun w' ⟨n, hn⟩ => by rw [hn]; exact hfin n⟩

/-! the steps of the walk -/
variable {ops : Array Oper} {Qf : Act → Prop} {o : Oper} {rest : List Oper} {a : Act} {i : Nat}
theorem ch_row (hT : T.contains i = true) (h : wpCh P ops T C Qf (i + 1) rest (a.put o.dst undef)) : wpCh P ops T C Qf i (o :: rest) a := by
  unfold wpCh
  rw [if_pos hT]
  exact h
theorem ch_free (hT : T.contains i = false) (hf : freeOp o = true) (hw : Region.wanted o (yielded ops a.tmps) = true) (h : ∀ K : Act → Prop, (∀ a, wpCh P ops T C Qf (i + 1) rest a → K a) → o.quiet P a (fun w => ∃ n : AnyW, w = n.w) K) : wpCh P ops T C Qf i (o :: rest) a := by
  obtain ⟨v, h1, h2⟩ := h _ (fun _ h => h)
  unfold wpCh
  rw [if_neg (by rw [hT]; simp), if_pos hw]
  refine ⟨v, ?_, h2⟩
  unfold COk
  rw [if_pos hf]
  exact h1
theorem ch_read (hT : T.contains i = false) (hf : freeOp o = false) (hw : Region.wanted o (yielded ops a.tmps) = true) (h : ∀ K : Act → Prop, (∀ a, wpCh P ops T C Qf (i + 1) rest a → K a) → o.quiet P a C K) : wpCh P ops T C Qf i (o :: rest) a := by
  obtain ⟨v, h1, h2⟩ := h _ (fun _ h => h)
  unfold wpCh
  rw [if_neg (by rw [hT]; simp), if_pos hw]
  refine ⟨v, ?_, h2⟩
  unfold COk
  rw [if_neg (by rw [hf]; simp)]
  exact h1
theorem ch_no (hT : T.contains i = false) (hw : Region.wanted o (yielded ops a.tmps) = false) (h : wpCh P ops T C Qf (i + 1) rest (a.put o.dst undef)) : wpCh P ops T C Qf i (o :: rest) a := by
  unfold wpCh
  rw [if_neg (by rw [hT]; simp), if_neg (by rw [hw]; simp)]
  exact h
theorem ch_end (h : Qf a) : wpCh P ops T C Qf i [] a := h
/-- where the row is walked: go_wp2_with (refine row_stop ?_); then refine row_on ?_ -/
def Stopped (p : Prop) : Prop := p
theorem row_stop {w : World} (h : Stopped (Q .normal a w)) : onlyN Q .normal a w := h
theorem row_on {p : Prop} (h : p) : Stopped p := h
theorem only_end {w : World} (h : Q .normal a w) : onlyN Q .normal a w := h
end
end Go.Proofs.Ytlkgmedenbfhkaa
