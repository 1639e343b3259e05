/- The general law for a region that draws its order (see Grand): every order. -/
import Derived.Test.YtlkgmedenbfhkaaGrand
namespace Go.Proofs.Ytlkgmedenbfhkaa
open Go.RowKit

section
variable {P : Program} {C : World → Prop} {Z : Nat → World → World → Prop} {made T : List Nat} {S : Nat → Value → World → Prop} {l : List Oper} {a0 : Act} {vals : Nat → Value} {N : Nat} {Q : Exit → Act → World → Prop} {pt : List (List Nat)}

structure GInv (P : Program) (T made : List Nat) (C : World → Prop) (S : Nat → Value → World → Prop) (l : List Oper) (a0 : Act) (vals : Nat → Value) (N : Nat) (Q : Exit → Act → World → Prop) (listed : Array Bool) (a : Act) (w : World) (γ : Nat → Value) (p : Nat) (b : Act) : Prop where
  size : listed.size = l.toArray.size
  closed : ∀ (j : Nat) (oj : Oper), l.toArray[j]? = some oj → listed.getD j false = true → ∀ e ∈ oj.after, Region.binds .any e = true → listed.getD e.on false = true
  fsize : a.tmps.size = N
  pl : p ≤ T.length
  on_ : ∀ k, k < p → listed.getD (T.getD k 0) false = true
  off : ∀ k, p ≤ k → k < T.length → listed.getD (T.getD k 0) true = false
  new : ∀ (j : Nat) (o : Oper) (s : Nat), l.toArray[j]? = some o → j ∉ T → o.dst = some s → listed.getD j false = true → a.tmps[s]? = some (if s ∈ made then γ s else vals j)
  old : ∀ s : Nat, (∀ (j : Nat) (o : Oper), l.toArray[j]? = some o → listed.getD j false = true → o.dst ≠ some s) → a.tmps[s]? = a0.tmps[s]?
  z : p = 0 → C w ∧ a.defers = a0.defers ∧ ∀ d ∈ made, wL l.toArray listed d → S d (γ d) w
  n : 0 < p → b.tmps.size = N ∧ a.defers = b.defers ∧ (∀ (j : Nat) (o : Oper) (s : Nat), l.toArray[j]? = some o → j ∉ T → o.dst = some s → b.tmps[s]? = some (if s ∈ made then γ s else vals j)) ∧
    (∀ s : Nat, (∀ (j : Nat) (o : Oper), l.toArray[j]? = some o → o.dst ≠ some s) → b.tmps[s]? = a0.tmps[s]?) ∧
    (∀ (j : Nat) (o : Oper) (s : Nat), l.toArray[j]? = some o → j ∈ T → o.dst = some s → listed.getD j false = true → a.tmps[s]? = b.tmps[s]?) ∧
    wpList P l.toArray (onlyN Q) ((T.drop p).filterMap fun t => l[t]?) b w

/-- what has come up has brought all that it waits for, along any way of edges -/
theorem path_listed {ops : Array Oper} {listed : Array Bool} (hc : ∀ (j : Nat) (oj : Oper), ops[j]? = some oj → listed.getD j false = true → ∀ e ∈ oj.after, Region.binds .any e = true → listed.getD e.on false = true) : ∀ (p : List Nat) (x y : Nat), p.head? = some x → p.getLast? = some y → pathB ops p = true → listed.getD x false = true → listed.getD y false = true
  | [], x, y, h, _, _, _ => by simp at h
  | [z], x, y, h1, h2, _, h => by simp at h1 h2; subst h1 h2; exact h
  | u :: v :: r, x, y, h1, h2, h3, h => by
    simp at h1
    subst h1
    rw [pathB, Bool.and_eq_true] at h3
    obtain ⟨ou, hou, he⟩ := Region.waitsFor_spec h3.1
    obtain ⟨e, he1, he2, he3⟩ := he
    have hv := hc u ou hou h e he1 he2
    rw [he3] at hv
    refine path_listed hc (v :: r) v y rfl ?_ h3.2 hv
    rw [List.getLast?_cons_cons] at h2
    exact h2

theorem grand_any (hZ : ∀ i w w', C w → Z i w w' → C w') (hS : ∀ i, ∀ d ∈ made, dstOf l.toArray i ≠ some d → ∀ v w w', C w → S d v w → Z i w w' → S d v w') (ok : GrandOk T made pt N l.toArray) (hN : a0.tmps.size = N)
    (hok : ∀ (j : Nat) (o : Oper), l[j]? = some o → GAt P l.toArray T C Z made S j o (frs a0 l vals j) (vals j))
    (hQ : ∀ (γ : Nat → Value) (w : World), C w → (∀ d ∈ made, S d (γ d) w) → wpList P l.toArray (onlyN Q) (T.filterMap fun t => l[t]?) (putG γ made (frs a0 l vals l.length)) w) :
    ∀ (fuel : Nat) (listed : Array Bool) (a : Act) (w : World) (γ : Nat → Value) (p : Nat) (b : Act), GInv P T made C S l a0 vals N Q listed a w γ p b → cnt listed = fuel → wpAny P .any l.toArray Q fuel listed a w := by
  have hli : ∀ j : Nat, l.toArray[j]? = l[j]? := fun j => List.getElem?_toArray
  -- the frame of the text, with the unknown values laid in
  have b0n : ∀ (γ : Nat → Value) (j : Nat) (o : Oper) (s : Nat), l.toArray[j]? = some o → o.dst = some s → (putG γ made (frs a0 l vals l.length)).tmps[s]? = some (if s ∈ made then γ s else vals j) := fun γ j o s hj hd => by
    have hj' : l[j]? = some o := by rw [← hli]; exact hj
    by_cases hm : s ∈ made
    · rw [if_pos hm, putG_new γ s made _ hm (by rw [(frs_size a0 l vals _).1, hN]; exact ok.msize s hm)]
    · rw [if_neg hm, putG_old γ s made _ hm]
      exact frs_new a0 l vals s j o hj' hd (by rw [hN]; exact ok.size j o s hj hd) (fun j' o' h' hne hd' => hne (ok.dist j' j o' o s (by rw [hli]; exact h') hj hd' hd)) l.length (List.getElem?_eq_some_iff.1 hj').1
  have b0o : ∀ (γ : Nat → Value) (s : Nat), (∀ (j : Nat) (o : Oper), l.toArray[j]? = some o → o.dst ≠ some s) → (putG γ made (frs a0 l vals l.length)).tmps[s]? = a0.tmps[s]? := fun γ s hs => by
    have hm : s ∉ made := fun hm => by
      obtain ⟨j, oj, hj, hd, _⟩ := ok.has s hm
      exact hs j oj hj hd
    rw [putG_old γ s made _ hm]
    exact frs_old a0 l vals s l.length (fun j o _ hj => hs j o (by rw [hli]; exact hj))
  have fin : ∀ (listed : Array Bool) (a : Act) (w : World) (γ : Nat → Value) (p : Nat) (b : Act), GInv P T made C S l a0 vals N Q listed a w γ p b → (∀ i, i < listed.size → listed.getD i false = true) → Q .normal a w := by
    intro listed a w γ p b inv hall
    have all : ∀ (j : Nat) (o : Oper), l.toArray[j]? = some o → listed.getD j false = true := fun j o hj => hall j (by rw [inv.size]; exact lt_of_some hj)
    have hp : p = T.length := by
      rcases Nat.lt_or_ge p T.length with h | h
      · exfalso
        have h1 := inv.off p (Nat.le_refl _) h
        have h2 : T.getD p 0 < listed.size := by
          rw [inv.size]
          refine ok.tin _ ?_
          rw [getD_elem h]
          exact List.getElem_mem h
        have h3 := getD_of (hall _ h2)
        rw [h1] at h3
        cases h3
      · exact Nat.le_antisymm inv.pl h
    have same : ∀ b' : Act, (∀ (j : Nat) (o : Oper) (s : Nat), l.toArray[j]? = some o → o.dst = some s → a.tmps[s]? = b'.tmps[s]?) → (∀ s : Nat, (∀ (j : Nat) (o : Oper), l.toArray[j]? = some o → o.dst ≠ some s) → b'.tmps[s]? = a0.tmps[s]?) → a.defers = b'.defers → a = b' := by
      intro b' h1 h2 h3
      have e1 : a.tmps = b'.tmps := by
        apply Array.ext_getElem?
        intro k
        by_cases hex : ∃ (j : Nat) (oj : Oper), l.toArray[j]? = some oj ∧ oj.dst = some k
        · obtain ⟨j, oj, hj, dj⟩ := hex
          exact h1 j oj k hj dj
        · have hno : ∀ (j : Nat) (oj : Oper), l.toArray[j]? = some oj → oj.dst ≠ some k := fun j oj hj hd => hex ⟨j, oj, hj, hd⟩
          rw [inv.old k (fun j oj hj _ => hno j oj hj), h2 k hno]
      obtain ⟨t1, d1⟩ := a
      obtain ⟨t2, d2⟩ := b'
      simp only at e1 h3
      subst e1 h3
      rfl
    by_cases hp0 : p = 0
    · have hT : T = [] := List.eq_nil_of_length_eq_zero (by omega)
      obtain ⟨hC, hd, hsp⟩ := inv.z hp0
      have := hQ γ w hC (fun d hd => hsp d hd (by obtain ⟨j, oj, hj, hk, _⟩ := ok.has d hd; exact ⟨j, oj, hj, hk, all j oj hj⟩))
      rw [hT] at this
      rw [same (putG γ made (frs a0 l vals l.length)) (fun j o s hj hds => by rw [inv.new j o s hj (by rw [hT]; simp) hds (all j o hj), b0n γ j o s hj hds]) (b0o γ) (by rw [(putG_size γ made _).2, (frs_size a0 l vals _).2]; exact hd)]
      exact this
    · obtain ⟨_, hd, hbn, hbo, hag, hst⟩ := inv.n (by omega)
      rw [hp, List.drop_of_length_le (Nat.le_refl _)] at hst
      rw [same b (fun j o s hj hds => by
        by_cases hjT : j ∈ T
        · exact hag j o s hj hjT hds (all j o hj)
        · rw [inv.new j o s hj hjT hds (all j o hj), hbn j o s hj hjT hds]) hbo hd]
      exact hst
  intro fuel
  induction fuel with
  | zero =>
    intro listed a w γ p b inv hc
    have hall : ∀ i, i < listed.size → listed.getD i false = true := fun i hi => cnt_zero hc i hi
    refine ⟨?_, fin listed a w γ p b inv hall⟩
    rw [List.eq_nil_iff_forall_not_mem]
    intro i hi
    obtain ⟨h1, o, ho, _⟩ := mem_ready.1 hi
    have h2 := hall i (by rw [inv.size]; exact lt_of_some ho)
    rw [getD_both h1] at h2
    cases h2
  | succ fuel ih =>
    intro listed a w γ p b inv hc
    constructor
    · intro hr
      exfalso
      have hex : ∃ i, i < listed.size ∧ listed.getD i false = false := by
        refine Classical.byContradiction fun hne => ?_
        have hall : ∀ i, i < listed.size → listed.getD i false = true := fun i hi => by
          cases h : listed.getD i false with
          | true => rfl
          | false => exact absurd ⟨i, hi, h⟩ hne
        have : cnt listed = 0 := by
          unfold cnt
          rw [List.length_eq_zero_iff, List.filter_eq_nil_iff]
          intro b hb
          obtain ⟨i, hi, he⟩ := List.mem_iff_getElem.1 hb
          have h1 := hall i (by simpa using hi)
          have hi' : i < listed.size := by simpa using hi
          simp [hi'] at h1
          simp at he
          rw [← he, h1]
          simp
        omega
      obtain ⟨i0, hi0, hu0⟩ := hex
      have hmin : ∃ i, i < listed.size ∧ listed.getD i false = false ∧ ∀ j, j < i → listed.getD j false = true := by
        induction i0 using Nat.strongRecOn with
        | _ i0 ihm =>
          by_cases h : ∃ j, j < i0 ∧ listed.getD j false = false
          · obtain ⟨j, hj, hju⟩ := h
            exact ihm j hj (by omega) hju
          · refine ⟨i0, hi0, hu0, fun j hj => ?_⟩
            cases hjv : listed.getD j false with
            | true => rfl
            | false => exact absurd ⟨j, hj, hjv⟩ h
      obtain ⟨i, hi, hu, hlt⟩ := hmin
      have hil : i < l.toArray.size := by rw [← inv.size]; exact hi
      have : i ∈ Region.ready .any l.toArray listed := mem_ready.2 ⟨getD_in hi hu, l.toArray[i], by simp [Array.getElem?_eq_getElem hil], fun e he hb => hlt _ (ok.back i _ (Array.getElem?_eq_getElem hil) e he hb)⟩
      rw [hr] at this
      cases this
    · intro i hi
      obtain ⟨hun, o, ho, hall⟩ := mem_ready.1 hi
      have hol : l[i]? = some o := by rw [← List.getElem?_toArray]; exact ho
      have hcn : cnt (listed.setIfInBounds i true) = fuel := by have := cnt_step hun; omega
      have hsz : i < listed.size := by rw [inv.size]; exact lt_of_some ho
      have listedOf : ∀ j, Region.waitsFor .any l.toArray i j = true → listed.getD j false = true := fun j hw => by
        obtain ⟨e, he, hb, hon⟩ := waits_mem ho hw
        have := hall e he hb
        rw [hon] at this
        exact this
      have notListed : ∀ (j : Nat) (oj : Oper), l.toArray[j]? = some oj → Region.waitsFor .any l.toArray j i = true → listed.getD j false = true → False := fun j oj hj hw hl => by
        obtain ⟨e, he, hb, hon⟩ := waits_mem hj hw
        have := inv.closed j oj hj hl e he hb
        rw [hon, getD_both hun] at this
        cases this
      have closed' : ∀ (j : Nat) (oj : Oper), l.toArray[j]? = some oj → (listed.setIfInBounds i true).getD j false = true → ∀ e ∈ oj.after, Region.binds .any e = true → (listed.setIfInBounds i true).getD e.on false = true := fun j oj hj hl e he hb => by
        by_cases hij : i = j
        · subst hij
          rw [ho] at hj
          injection hj with hj
          subst hj
          exact getD_set_true (hall e he hb)
        · rw [getD_set_ne false hij] at hl
          exact getD_set_true (inv.closed j oj hj hl e he hb)
      by_cases hT : i ∈ T
      · -- one of the row
        obtain ⟨k, hkl, hki⟩ := List.getElem_of_mem hT
        have hkD : T.getD k 0 = i := by rw [getD_elem hkl, hki]
        have hpk : p ≤ k := by
          rcases Nat.lt_or_ge k p with h | h
          · have := getD_of (inv.on_ k h)
            rw [hkD, hun] at this
            cases this
          · exact h
        have hkp : k = p := by
          refine Nat.le_antisymm ?_ hpk
          refine Classical.byContradiction fun hlt => ?_
          have hk1 : k - 1 + 1 = k := by omega
          have h1 := ok.row (k - 1) (by omega)
          rw [hk1, hkD] at h1
          have h2 := getD_of (listedOf _ h1)
          rw [inv.off (k - 1) (by omega) (by omega)] at h2
          cases h2
        subst hkp
        -- the frame from which the row goes on
        have hB : ∃ b : Act, b.tmps.size = N ∧ a.defers = b.defers ∧ (∀ (j : Nat) (o : Oper) (s : Nat), l.toArray[j]? = some o → j ∉ T → o.dst = some s → b.tmps[s]? = some (if s ∈ made then γ s else vals j)) ∧
            (∀ s : Nat, (∀ (j : Nat) (o : Oper), l.toArray[j]? = some o → o.dst ≠ some s) → b.tmps[s]? = a0.tmps[s]?) ∧
            (∀ (j : Nat) (o : Oper) (s : Nat), l.toArray[j]? = some o → j ∈ T → o.dst = some s → listed.getD j false = true → a.tmps[s]? = b.tmps[s]?) ∧
            wpList P l.toArray (onlyN Q) ((T.drop k).filterMap fun t => l[t]?) b w := by
          by_cases hk0 : k = 0
          · subst hk0
            obtain ⟨hC, hd, hsp⟩ := inv.z rfl
            have h0 : T.headD 0 = T.getD 0 0 := by cases T <;> rfl
            have hlT : ∀ (j : Nat) (oj : Oper), l.toArray[j]? = some oj → j ∈ T → listed.getD j false = true → False := fun j oj hj hjT hl => by
              obtain ⟨m, hml, hmi⟩ := List.getElem_of_mem hjT
              have h1 := inv.off m (Nat.zero_le _) hml
              rw [getD_elem hml, hmi] at h1
              have h2 := getD_of hl
              rw [h1] at h2
              cases h2
            have hmade : ∀ d ∈ made, wL l.toArray listed d := fun d hd => by
              obtain ⟨j, oj, hj, hk, hjT⟩ := ok.has d hd
              refine ⟨j, oj, hj, hk, ?_⟩
              rcases ok.fr j oj hj hjT with h | h | h | ⟨pp, _, h1, h2, h3⟩
              · exfalso
                unfold gfree at h
                rw [Bool.and_eq_true, Bool.and_eq_true] at h
                have := h.1.2
                rw [nd_in hk hd] at this
                cases this
              · rw [h] at hT; cases hT
              · rw [h0, hkD] at h
                exact listedOf j h
              · rw [h0, hkD] at h1
                match pp, h1, h2, h3 with
                | [x], h1, h2, _ =>
                  simp at h1 h2
                  subst h1 h2
                  exact absurd hT hjT
                | x :: y :: r, h1, h2, h3 =>
                  simp at h1
                  subst h1
                  rw [pathB, Bool.and_eq_true] at h3
                  rw [List.getLast?_cons_cons] at h2
                  exact path_listed inv.closed (y :: r) y j rfl h2 h3.2 (listedOf y h3.1)
            refine ⟨putG γ made (frs a0 l vals l.length), by rw [(putG_size γ made _).1, (frs_size a0 l vals _).1]; exact hN, by rw [(putG_size γ made _).2, (frs_size a0 l vals _).2]; exact hd, fun j o s hj _ hds => b0n γ j o s hj hds, b0o γ, fun j o s hj hjT _ hl => (hlT j o hj hjT hl).elim, ?_⟩
            rw [List.drop_zero]
            exact hQ γ w hC (fun d hd => hsp d hd (hmade d hd))
          · exact ⟨b, inv.n (by omega)⟩
        obtain ⟨b, hbs, hbd, hbn, hbo, hbt, hst⟩ := hB
        have hag : ∀ s ∈ o.looksAt l.toArray, a.tmps[s]? = b.tmps[s]? := fun s hs => by
          by_cases hex : ∃ (j : Nat) (oj : Oper), l.toArray[j]? = some oj ∧ oj.dst = some s
          · obtain ⟨j, oj, hj, dj⟩ := hex
            have hlj := listedOf j (ok.tl i j o oj s ho hT hs hj dj)
            by_cases hjT : j ∈ T
            · exact hbt j oj s hj hjT dj hlj
            · rw [inv.new j oj s hj hjT dj hlj, hbn j oj s hj hjT dj]
          · have hno : ∀ (j : Nat) (oj : Oper), l.toArray[j]? = some oj → oj.dst ≠ some s := fun j oj hj hd => hex ⟨j, oj, hj, hd⟩
            rw [inv.old s (fun j oj hj _ => hno j oj hj), hbo s hno]
        have hx := exec_agree o (fun cs b => ok.sel i o cs b ho) hag
        have hgd := ok.tg i o ho hT
        have hdrop : (T.drop k).filterMap (fun t => l[t]?) = o :: (T.drop (k + 1)).filterMap (fun t => l[t]?) := by
          rw [List.drop_eq_getElem_cons hkl, List.filterMap_cons, hki, hol]
        rw [hdrop] at hst
        unfold wpList at hst
        rw [if_pos (by unfold Region.wanted; rw [hgd])] at hst
        have hwp : o.wp P b w (wpList P l.toArray (onlyN Q) ((T.drop (k + 1)).filterMap fun t => l[t]?)) (onlyN Q) := hst.resolve_right (fun h => lets_only h.2)
        have next : ∀ (ds : List _) (v : Value) (w' : World), wpList P l.toArray (onlyN Q) ((T.drop (k + 1)).filterMap fun t => l[t]?) ({ b with defers := ds }.put o.dst v) w' → wpAny P .any l.toArray Q fuel (listed.setIfInBounds i true) ({ a with defers := ds }.put o.dst v) w' := by
          intro ds v w' h
          refine ih _ _ _ γ (k + 1) ({ b with defers := ds }.put o.dst v) ⟨by simp [inv.size], closed', by rw [put_size]; exact inv.fsize, hkl, fun k' hk' => ?_, fun k' hk' hk2 => ?_, fun j oj s hj hjT hd hl => ?_, fun s hs => ?_, fun h => absurd h (by omega), fun _ => ⟨by rw [put_size]; exact hbs, by rw [put_defs, put_defs], fun j oj s hj hjT hd => ?_, fun s hs => ?_, fun j oj s hj hjT hd hl => ?_, h⟩⟩ hcn
          · by_cases e : k' = k
            · subst e
              rw [hkD]
              simp [hsz]
            · exact getD_set_true (inv.on_ k' (by omega))
          · have hne : i ≠ T.getD k' 0 := fun e => by
              have h2 : ∀ m, k < m → m < T.length → T.getD m 0 ≠ i := by
                intro m hm hml e2
                have h3 := ok.row (m - 1) (by omega)
                rw [show m - 1 + 1 = m by omega, e2] at h3
                have h4 := getD_of (listedOf _ h3)
                rw [inv.off (m - 1) (by omega) (by omega)] at h4
                cases h4
              exact h2 k' (by omega) hk2 e.symm
            rw [getD_set_ne true hne]
            exact inv.off k' (by omega) hk2
          · have hij : i ≠ j := fun e => hjT (by rw [← e]; exact hT)
            rw [getD_set_ne false hij] at hl
            have hne : o.dst ≠ some s := fun e => hij (ok.dist i j o oj s ho hj e hd)
            rw [put_get _ _ _ _ hne]
            exact inv.new j oj s hj hjT hd hl
          · have h1 : o.dst ≠ some s := hs i o ho (by simp [hsz])
            rw [put_get _ _ _ _ h1]
            exact inv.old s fun j oj hj hl => hs j oj hj (getD_set_true hl)
          · have hij : i ≠ j := fun e => hjT (by rw [← e]; exact hT)
            have hne : o.dst ≠ some s := fun e => hij (ok.dist i j o oj s ho hj e hd)
            rw [put_get _ _ _ _ hne]
            exact hbn j oj s hj hjT hd
          · rw [put_get _ _ _ _ (hs i o ho)]
            exact hbo s hs
          · by_cases hij : i = j
            · subst hij
              rw [ho] at hj
              injection hj with hj
              subst hj
              rw [hd, put_at _ _ _ (by show s < a.tmps.size; rw [inv.fsize]; exact ok.size i o s ho hd), put_at _ _ _ (by show s < b.tmps.size; rw [hbs]; exact ok.size i o s ho hd)]
            · rw [getD_set_ne false hij] at hl
              have hne : o.dst ≠ some s := fun e => hij (ok.dist i j o oj s ho hj e hd)
              rw [put_get _ _ _ _ hne, put_get _ _ _ _ hne]
              exact hbt j oj s hj hjT hd hl
        unfold wpOp
        simp only [ho]
        rw [if_pos (by unfold Region.wanted; rw [hgd])]
        left
        unfold Oper.wp at hwp ⊢
        rw [hx]
        have ea : ∀ v, a.put o.dst v = ({ a with defers := a.defers } : Act).put o.dst v := fun v => rfl
        have eb : ∀ v, b.put o.dst v = ({ b with defers := a.defers } : Act).put o.dst v := fun v => by rw [hbd]
        generalize (execOp b.eval o).run P w = r at *
        cases r with
        | ok n w' =>
          cases n <;> simp only [Oper.upon] at hwp ⊢
          case value u => rw [ea]; exact next _ _ _ (by rw [← eb]; exact hwp)
          case skip => rw [ea]; exact next _ _ _ (by rw [← eb]; exact hwp)
          case row r args => exact hwp.mono fun v w'' h => by rw [ea]; exact next _ _ _ (by rw [← eb]; exact h)
          case enter f args =>
            refine hwp.mono fun e w'' h => ?_
            cases e with
            | returned v => simp only at h ⊢; rw [ea]; exact next _ _ _ (by rw [← eb]; exact h)
            | panicked c => simp only [onlyN] at h
            | outgrown => exact absurd h lets_only
          rw [hbd]; exact next _ _ _ hwp
        | halt x w' =>
          cases x <;> simp only [Oper.upon, onlyN] at hwp
      · -- another one
        have hO := hok i o hol
        have hnT : ∀ k, k < T.length → T.getD k 0 ≠ i := fun k hk e => hT (by rw [← e, getD_elem hk]; exact List.getElem_mem hk)
        have agree : ∀ s ∈ o.looksAt l.toArray, s ∉ made → a.tmps[s]? = (frs a0 l vals i).tmps[s]? := fun s hs hsm => by
          by_cases hex : ∃ (j : Nat) (oj : Oper), l.toArray[j]? = some oj ∧ oj.dst = some s
          · obtain ⟨j, oj, hj, dj⟩ := hex
            have hjT := ok.nl i j o oj s ho hT hs hj dj
            rcases ok.look i j o oj s ho hj hs dj with ⟨hlt, hw⟩ | ⟨hlt, hw⟩
            · rw [inv.new j oj s hj hjT dj (listedOf j hw), if_neg hsm]
              rw [frs_new a0 l vals s j oj (by rw [← hli]; exact hj) dj (by rw [hN]; exact ok.size j oj s hj dj) (fun j' o' hj' hne hd' => hne (ok.dist j' j o' oj s (by rw [hli]; exact hj') hj hd' dj)) i hlt]
            · have hnl : listed.getD j false = true → False := notListed j oj hj hw
              rw [inv.old s (fun j' o' hj' hl' hd' => by have := ok.dist j' j o' oj s hj' hj hd' dj; subst this; exact hnl hl'),
                frs_old a0 l vals s i (fun j' o' hlt' hj' hd' => by have := ok.dist j' j o' oj s (by rw [hli]; exact hj') hj hd' dj; omega)]
          · have hno : ∀ (j : Nat) (oj : Oper), l.toArray[j]? = some oj → oj.dst ≠ some s := fun j oj hj hd => hex ⟨j, oj, hj, hd⟩
            rw [inv.old s (fun j oj hj _ => hno j oj hj), frs_old a0 l vals s i (fun j oj _ hj => hno j oj (by rw [hli]; exact hj))]
        have hlk : ∀ k ∈ lkOf made l.toArray o, k ∈ made ∧ k ∈ o.looksAt l.toArray := fun k hk => by
          have := List.mem_filter.1 hk
          exact ⟨this.1, by simpa using this.2⟩
        have hwr : ∀ k ∈ lkOf made l.toArray o, wL l.toArray listed k ∧ a.tmps[k]? = some (γ k) := fun k hk => by
          obtain ⟨h1, h2⟩ := hlk k hk
          obtain ⟨j, oj, hj, dj, hw⟩ := ok.made_ i o k ho hT h2 h1
          have hl := listedOf j hw
          have hjT := ok.nl i j o oj k ho hT h2 hj dj
          refine ⟨⟨j, oj, hj, dj, hl⟩, ?_⟩
          rw [inv.new j oj k hj hjT dj hl, if_pos h1]
        have hag : ∀ k ∈ o.looksAt l.toArray, a.tmps[k]? = (putG γ (lkOf made l.toArray o) (frs a0 l vals i)).tmps[k]? := fun k hk => by
          by_cases hkm : k ∈ made
          · have hk2 : k ∈ lkOf made l.toArray o := List.mem_filter.2 ⟨hkm, by simpa using hk⟩
            rw [(hwr k hk2).2, putG_new γ k _ _ hk2 (by rw [(frs_size a0 l vals i).1, hN]; exact ok.msize k hkm)]
          · rw [putG_old γ k _ _ (fun h => hkm (hlk k h).1)]
            exact agree k hk hkm
        have hx := exec_agree o (fun cs b => ok.sel i o cs b ho) hag
        have hw : Region.wanted o (yielded l.toArray a.tmps) = Region.wanted o (yielded l.toArray (frs a0 l vals i).tmps) := by
          unfold Region.wanted
          cases hg : o.guard with
          | none => rfl
          | some gb =>
            obtain ⟨g, bb⟩ := gb
            have : yielded l.toArray a.tmps g = yielded l.toArray (frs a0 l vals i).tmps g := by
              unfold yielded
              cases hd : (l.toArray[g]?).bind (·.dst) with
              | none => rfl
              | some k =>
                have hk : k ∈ o.looksAt l.toArray := by
                  have hd2 := hd
                  simp only [List.getElem?_toArray] at hd2
                  unfold Oper.looksAt
                  simp [hg, hd2]
                simp only [Option.bind_some, agree k hk (ok.grd i o g bb k ho hT hg hd)]
            simp only [this]
        -- what goes on: the row is as it was; the world may have turned only ahead of it
        have cont : ∀ (v : Value) (γ' : Nat → Value) (w' : World), (∀ s, o.dst = some s → v = if s ∈ made then γ' s else vals i) → (∀ d, o.dst ≠ some d → γ' d = γ d) →
            (p = 0 → C w' ∧ ∀ d ∈ made, wL l.toArray (listed.setIfInBounds i true) d → S d (γ' d) w') → (0 < p → w' = w ∧ γ' = γ) → wpAny P .any l.toArray Q fuel (listed.setIfInBounds i true) (a.put o.dst v) w' := by
          intro v γ' w' hv hγ h0 h1
          refine ih _ _ _ γ' p b ⟨by simp [inv.size], closed', by rw [put_size]; exact inv.fsize, inv.pl, fun k' hk' => getD_set_true (inv.on_ k' hk'), fun k' hk' hk2 => ?_, fun j oj s hj hjT hd hl => ?_, fun s hs => ?_, fun hp0 => ⟨(h0 hp0).1, by rw [put_defs]; exact (inv.z hp0).2.1, (h0 hp0).2⟩, fun hp0 => ?_⟩ hcn
          · rw [getD_set_ne true (fun e => hnT k' hk2 e.symm)]
            exact inv.off k' hk' hk2
          · by_cases hij : i = j
            · subst hij
              rw [ho] at hj
              injection hj with hj
              subst hj
              rw [hd, put_at _ _ _ (by rw [inv.fsize]; exact ok.size i o s ho hd), hv s hd]
            · rw [getD_set_ne false hij] at hl
              have hne : o.dst ≠ some s := fun e => hij (ok.dist i j o oj s ho hj e hd)
              rw [put_get _ _ _ _ hne, inv.new j oj s hj hjT hd hl, hγ s hne]
          · have h1 : o.dst ≠ some s := hs i o ho (by simp [hsz])
            rw [put_get _ _ _ _ h1]
            exact inv.old s fun j oj hj hl => hs j oj hj (getD_set_true hl)
          · obtain ⟨e1, e2⟩ := h1 hp0
            obtain ⟨m1, m2, m3, m4, m5, m6⟩ := inv.n hp0
            rw [e1, e2]
            refine ⟨m1, by rw [put_defs]; exact m2, m3, m4, fun j oj s hj hjT hd hl => ?_, m6⟩
            have hij : i ≠ j := fun e => hT (by rw [e]; exact hjT)
            rw [getD_set_ne false hij] at hl
            have hne : o.dst ≠ some s := fun e => hij (ok.dist i j o oj s ho hj e hd)
            rw [put_get _ _ _ _ hne]
            exact m5 j oj s hj hjT hd hl
        have spw : ∀ d ∈ made, o.dst ≠ some d → wL l.toArray (listed.setIfInBounds i true) d → wL l.toArray listed d := fun d _ hne h => wl_other ho hne h
        -- nothing known beforehand is left, the world is as it was
        have same : (∀ s, o.dst = some s → s ∉ made) → wpAny P .any l.toArray Q fuel (listed.setIfInBounds i true) (a.put o.dst (vals i)) w := fun hdm =>
          cont (vals i) γ w (fun s hs => by rw [if_neg (hdm s hs)]) (fun _ _ => rfl) (fun hp0 => ⟨(inv.z hp0).1, fun d hd h => (inv.z hp0).2.2 d hd (spw d hd (fun e => hdm d e hd) h)⟩) (fun _ => ⟨rfl, rfl⟩)
        have hpz : gfree made l.toArray o = false → p = 0 := fun hf => by
          refine Classical.byContradiction fun hne => ?_
          have h1 := inv.on_ 0 (by omega)
          have hT0 : 0 < T.length := by have := inv.pl; omega
          have hh : T.headD 0 = T.getD 0 0 := by cases T <;> rfl
          have hin : T.headD 0 ∈ T := by rw [hh, getD_elem hT0]; exact List.getElem_mem hT0
          rw [← hh] at h1
          rcases ok.fr i o ho hT with h | h | h | ⟨pp, _, h2, h3, h4⟩
          · rw [hf] at h; cases h
          · rw [h] at hT0; cases hT0
          · exact notListed (T.headD 0) _ (Array.getElem?_eq_getElem (ok.tin _ hin)) h h1
          · have := path_listed inv.closed pp _ _ h2 h3 h4 h1
            have h5 := getD_of this
            rw [hun] at h5
            cases h5
        unfold wpOp
        simp only [ho]
        rcases hO with hO | ⟨hw1, hq⟩ | ⟨hw1, hv, hno⟩
        · exact absurd (by simpa using hO) hT
        · rw [if_pos (hw.trans hw1)]
          left
          unfold Oper.wp
          rw [hx]
          unfold GOk at hq
          -- an operation with values not known beforehand about it
          have useN : p = 0 → ∀ U : Value → World → Prop, (∀ v w', Z i w w' → U v w' → wpAny P .any l.toArray Q fuel (listed.setIfInBounds i true) (a.put o.dst v) w') → (∀ v, U v w → wpAny P .any l.toArray Q fuel (listed.setIfInBounds i true) (a.put o.dst v) w) →
              GUp P (Z i) U w ((execOp (putG γ (lkOf made l.toArray o) (frs a0 l vals i)).eval o).run P w) →
              Oper.upon P o a (wpAny P .any l.toArray Q fuel (listed.setIfInBounds i true)) Q ((execOp (putG γ (lkOf made l.toArray o) (frs a0 l vals i)).eval o).run P w) := by
            intro _ U hU _ hn
            generalize (execOp (putG γ (lkOf made l.toArray o) (frs a0 l vals i)).eval o).run P w = r at *
            cases r with
            | ok n w' =>
              cases n <;> simp only [GUp] at hn <;> simp only [Oper.upon]
              case value u => exact hU u w' hn.1 hn.2
              case skip => exact hU undef w' hn.1 hn.2
              case enter f args => obtain ⟨e1, hc1⟩ := hn; rw [e1]; exact hc1.mono fun e w'' ⟨v, he, h1, h2⟩ => by subst he; exact hU v w'' h1 h2
            | halt x w' => simp only [GUp] at hn
          have turned : ∀ w', Z i w w' → C w → C w' := fun w' hz hC => hZ i w w' hC hz
          cases hnd : ndOf made o with
          | some d =>
            rw [hnd] at hq
            simp only at hq
            obtain ⟨hd, hm⟩ := nd_some hnd
            have hp0 := hpz (by unfold gfree; rw [hnd]; simp)
            obtain ⟨hC, _, hsp⟩ := inv.z hp0
            have go : ∀ v w', Z i w w' → S d v w' → wpAny P .any l.toArray Q fuel (listed.setIfInBounds i true) (a.put o.dst v) w' := fun v w' hz hs =>
              cont v (fun d' => if o.dst = some d' then v else γ d') w' (fun s hs' => by rw [hd] at hs'; injection hs' with hs'; subst hs'; rw [if_pos hm, if_pos hd]) (fun d' hne => by rw [if_neg hne])
                (fun _ => ⟨turned w' hz hC, fun d' hd' hL => by
                  by_cases e : o.dst = some d'
                  · rw [if_pos e]
                    rw [hd] at e
                    injection e with e
                    subst e
                    exact hs
                  · rw [if_neg e]
                    exact hS i d' hd' (by simp [dstOf, hol]; exact e) _ _ _ hC (hsp d' hd' (spw d' hd' e hL)) hz⟩) (fun h => absurd h (by omega))
            exact useN hp0 (S d) go (fun v hs => cont v (fun d' => if o.dst = some d' then v else γ d') w (fun s hs' => by rw [hd] at hs'; injection hs' with hs'; subst hs'; rw [if_pos hm, if_pos hd]) (fun d' hne => by rw [if_neg hne])
                (fun _ => ⟨hC, fun d' hd' hL => by
                  by_cases e : o.dst = some d'
                  · rw [if_pos e]
                    rw [hd] at e
                    injection e with e
                    subst e
                    exact hs
                  · rw [if_neg e]
                    exact hsp d' hd' (spw d' hd' e hL)⟩) (fun h => absurd h (by omega))) (hq.2 γ w hC (fun k hk => hsp k (hlk k hk).1 (hwr k hk).1))
          | none =>
            rw [hnd] at hq
            simp only at hq
            have hdm : ∀ s, o.dst = some s → s ∉ made := fun s hs => nd_none hnd hs
            have keepZ : p = 0 → ∀ w', Z i w w' → wpAny P .any l.toArray Q fuel (listed.setIfInBounds i true) (a.put o.dst (vals i)) w' := fun hp0 w' hz => by
              obtain ⟨hC, _, hsp⟩ := inv.z hp0
              exact cont (vals i) γ w' (fun s hs => by rw [if_neg (hdm s hs)]) (fun _ _ => rfl) (fun _ => ⟨turned w' hz hC, fun d hd h => by
                have hne : o.dst ≠ some d := fun e => hdm d e hd
                exact hS i d hd (by simp [dstOf, hol]; exact hne) _ _ _ hC (hsp d hd (spw d hd hne h)) hz⟩) (fun h => absurd h (by omega))
            by_cases hlk0 : lkOf made l.toArray o = []
            · rw [if_pos hlk0] at hq
              rw [hlk0]
              simp only [putG]
              by_cases hf : freeOp o = true
              · rw [if_pos hf] at hq
                have h3 := hq w ⟨⟨w⟩, rfl⟩
                have hpl := free_plain hf
                unfold Oper.quietAt at h3
                have hne := fun w' f args => plain_not_enter (P := P) hpl (frs a0 l vals i).eval w w' f args
                generalize (execOp (frs a0 l vals i).eval o).run P w = r at *
                cases r with
                | ok n w' =>
                  cases n <;> simp only [Oper.quietUpon] at h3 <;> simp only [Oper.upon]
                  case value u => obtain ⟨e1, e2⟩ := h3; rw [e1, e2]; exact same hdm
                  case skip => obtain ⟨e1, e2⟩ := h3; rw [e1, ← e2]; exact same hdm
                  case enter f args => exact absurd rfl (hne w' f args)
                | halt x w' => simp only [Oper.quietUpon] at h3
              · rw [if_neg hf] at hq
                have hp0 := hpz (by unfold gfree; simp at hf; rw [hf]; rfl)
                obtain ⟨hC, _, hsp⟩ := inv.z hp0
                by_cases hc : isCall o = true
                · rw [if_pos hc] at hq
                  have h3 : RUp P (Z i) w (vals i) ((execOp (frs a0 l vals i).eval o).run P w) := hq ⟨w, hC⟩
                  generalize (execOp (frs a0 l vals i).eval o).run P w = r at *
                  cases r with
                  | ok n w' =>
                    cases n <;> simp only [RUp] at h3 <;> simp only [Oper.upon]
                    case value u => obtain ⟨e1, e2⟩ := h3; rw [e1, e2]; exact same hdm
                    case enter f args =>
                      obtain ⟨e1, hc1⟩ := h3
                      rw [e1]
                      exact hc1.mono fun e w'' ⟨he, hb⟩ => by subst he; exact keepZ hp0 w'' hb
                  | halt x w' => simp only [RUp] at h3
                · rw [if_neg hc] at hq
                  have h3 := hq w ⟨⟨w, hC⟩, rfl⟩
                  have hpl : plain o = true := by
                    rcases ok.pl i o ho hT with h | h | h | h
                    · exact h
                    · exact absurd h hc
                    · rw [hnd] at h; cases h
                    · exact absurd hlk0 h
                  unfold Oper.quietAt at h3
                  have hne := fun w' f args => plain_not_enter (P := P) hpl (frs a0 l vals i).eval w w' f args
                  generalize (execOp (frs a0 l vals i).eval o).run P w = r at *
                  cases r with
                  | ok n w' =>
                    cases n <;> simp only [Oper.quietUpon] at h3 <;> simp only [Oper.upon]
                    case value u => obtain ⟨e1, e2⟩ := h3; rw [e1, e2]; exact same hdm
                    case skip => obtain ⟨e1, e2⟩ := h3; rw [e1, ← e2]; exact same hdm
                    case enter f args => exact absurd rfl (hne w' f args)
                  | halt x w' => simp only [Oper.quietUpon] at h3
            · rw [if_neg hlk0] at hq
              have hp0 := hpz (by unfold gfree; cases h : lkOf made l.toArray o with | nil => exact absurd h hlk0 | cons x r => simp)
              obtain ⟨hC, _, hsp⟩ := inv.z hp0
              exact useN hp0 (fun u _ => u = vals i) (fun v w' hz hv => by rw [hv]; exact keepZ hp0 w' hz) (fun v hv => by rw [hv]; exact same hdm) (hq γ w hC (fun k hk => hsp k (hlk k hk).1 (hwr k hk).1))
        · rw [if_neg (by rw [hw, hw1]; simp)]
          by_cases hdm : ∃ d, o.dst = some d ∧ d ∈ made
          · obtain ⟨d, hd, hm⟩ := hdm
            have hnd := nd_in hd hm
            have hp0 := hpz (by unfold gfree; rw [hnd]; simp)
            obtain ⟨hC, _, hsp⟩ := inv.z hp0
            exact cont undef (fun d' => if o.dst = some d' then undef else γ d') w (fun s hs' => by rw [hd] at hs'; injection hs' with hs'; subst hs'; rw [if_pos hm, if_pos hd]) (fun d' hne => by rw [if_neg hne])
              (fun _ => ⟨hC, fun d' hd' hL => by
                by_cases e : o.dst = some d'
                · rw [if_pos e]
                  rw [hd] at e
                  injection e with e
                  subst e
                  exact hno d hnd w hC
                · rw [if_neg e]
                  exact hsp d' hd' (spw d' hd' e hL)⟩) (fun h => absurd h (by omega))
          · have := same (fun s hs hm => hdm ⟨s, hs, hm⟩)
            rw [hv] at this
            exact this

/-- ONE WALK, IN THE ORDER OF THE TEXT, THEN THE ROW: EVERY ORDER. -/
theorem wp_region_grand {id : Nat} {a : Act} {w0 : World} (C : World → Prop) (Z : Nat → World → World → Prop) (made : List Nat) (S : Nat → Value → World → Prop) (T : List Nat) (pt : List (List Nat)) (N : Nat) (h0 : C w0.drew) (hZ : ∀ i w w', C w → Z i w w' → C w')
    (hS : ∀ i, ∀ d ∈ made, dstOf l.toArray i ≠ some d → ∀ v w w', C w → S d v w → Z i w w' → S d v w') (hm : P.follows .mixedOrders = true) (hB : grandB T made pt N l.toArray = true) (hN : a.tmps.size = N)
    (h : wpG P l.toArray T C Z made S (fun aF => ∀ (γ : Nat → Value) (w : World), C w → (∀ d ∈ made, S d (γ d) w) → wpList P l.toArray (onlyN Q) (T.filterMap fun t => l[t]?) (putG γ made aF) w) 0 l a) :
    (Code.region id l.toArray true).wp P Q a w0 := by
  have ok := grand_spec hB
  obtain ⟨vals, hok, hfin⟩ := g_ext l 0 a h
  refine wp_region_any hm ?_
  have hf : ∀ j, (Array.replicate l.toArray.size false).getD j false = true → False := fun j hj => by rw [getD_replicate_false] at hj; cases hj
  refine grand_any (vals := vals) hZ hS ok hN (fun j o hj => by have := hok j o hj; rwa [Nat.zero_add] at this) hfin l.toArray.size _ a _ (fun _ => undef) 0 a ⟨by simp, fun j oj _ hl => (hf j hl).elim, hN, Nat.zero_le _, fun k hk => absurd hk (Nat.not_lt_zero _), fun k _ hk => ?_, fun j o s _ _ _ hl => (hf j hl).elim, fun s _ => rfl, fun _ => ⟨h0, rfl, fun d _ ⟨j, o, _, _, hl⟩ => (hf j hl).elim⟩, fun h => absurd h (Nat.lt_irrefl _)⟩ (by simp [cnt])
  have hin : T.getD k 0 < l.toArray.size := ok.tin _ (by rw [getD_elem hk]; exact List.getElem_mem hk)
  exact getD_in (by simpa using hin) (getD_replicate_false _ _)

/-! the steps of the walk -/
variable {ops : Array Oper} {Qf : Act → Prop} {o : Oper} {rest : List Oper} {a : Act} {i : Nat}
theorem gr_row (hT : T.contains i = true) (h : wpG P ops T C Z made S Qf (i + 1) rest (a.put o.dst undef)) : wpG P ops T C Z made S Qf i (o :: rest) a := by
  unfold wpG
  rw [if_pos hT]
  exact h
theorem gr_free (hT : T.contains i = false) (hk : ndOf made o = none) (hl : lkOf made ops o = []) (hf : freeOp o = true) (hw : Region.wanted o (yielded ops a.tmps) = true) (h : ∀ K : Act → Prop, (∀ a, wpG P ops T C Z made S Qf (i + 1) rest a → K a) → o.quiet P a (fun w => ∃ n : AnyW, w = n.w) K) : wpG P ops T C Z made S Qf i (o :: rest) a := by
  obtain ⟨v, h1, h2⟩ := h _ (fun _ h => h)
  unfold wpG
  rw [if_neg (by rw [hT]; simp), if_pos hw]
  refine ⟨v, ?_, h2⟩
  unfold GOk
  rw [hk]
  simp only
  rw [if_pos hl, if_pos hf]
  exact h1
theorem gr_q (hT : T.contains i = false) (hk : ndOf made o = none) (hl : lkOf made ops o = []) (hf : freeOp o = false) (hc : isCall o = false) (hw : Region.wanted o (yielded ops a.tmps) = true) (h : ∀ K : Act → Prop, (∀ a, wpG P ops T C Z made S Qf (i + 1) rest a → K a) → o.quiet P a (fun w => ∃ n : CW C, w = n.w) K) : wpG P ops T C Z made S Qf i (o :: rest) a := by
  obtain ⟨v, h1, h2⟩ := h _ (fun _ h => h)
  unfold wpG
  rw [if_neg (by rw [hT]; simp), if_pos hw]
  refine ⟨v, ?_, h2⟩
  unfold GOk
  rw [hk]
  simp only
  rw [if_pos hl, hf, hc]
  exact h1
theorem gr_call (hT : T.contains i = false) (hk : ndOf made o = none) (hl : lkOf made ops o = []) (hc : isCall o = true) (hw : Region.wanted o (yielded ops a.tmps) = true) (h : ∀ K : Act → Prop, (∀ a, wpG P ops T C Z made S Qf (i + 1) rest a → K a) → ∃ v, (∀ n : CW C, RUp P (Z i) n.w v ((execOp a.eval o).run P n.w)) ∧ K (a.put o.dst v)) : wpG P ops T C Z made S Qf i (o :: rest) a := by
  obtain ⟨v, h1, h2⟩ := h _ (fun _ h => h)
  unfold wpG
  rw [if_neg (by rw [hT]; simp), if_pos hw]
  refine ⟨v, ?_, h2⟩
  unfold GOk
  rw [hk]
  simp only
  have hf : freeOp o = false := by
    obtain ⟨dst, op, ty, pos, after, guard⟩ := o
    cases op <;> simp_all [freeOp, isCall]
  rw [if_pos hl, hf, if_neg (by simp), if_pos hc]
  exact h1
theorem gr_no (hT : T.contains i = false) (hk : ndOf made o = none) (hw : Region.wanted o (yielded ops a.tmps) = false) (h : wpG P ops T C Z made S Qf (i + 1) rest (a.put o.dst undef)) : wpG P ops T C Z made S Qf i (o :: rest) a := by
  unfold wpG
  rw [if_neg (by rw [hT]; simp), if_neg (by rw [hw]; simp)]
  exact ⟨(fun d hd => by rw [hk] at hd; cases hd), h⟩
theorem gr_n (d : Nat) (ks : List Nat) (hT : T.contains i = false) (hk : ndOf made o = some d) (hl : lkOf made ops o = ks) (hw : Region.wanted o (yielded ops a.tmps) = true)
    (h1 : ∀ (γ : Nat → Value) (w : World), C w → (∀ k ∈ ks, S k (γ k) w) → GUp P (Z i) (S d) w ((execOp (putG γ ks a).eval o).run P w)) (h : wpG P ops T C Z made S Qf (i + 1) rest (a.put o.dst undef)) : wpG P ops T C Z made S Qf i (o :: rest) a := by
  subst hl
  unfold wpG
  rw [if_neg (by rw [hT]; simp), if_pos hw]
  refine ⟨undef, ?_, h⟩
  unfold GOk
  rw [hk]
  exact ⟨rfl, h1⟩
theorem gr_u (v : Value) (ks : List Nat) (hT : T.contains i = false) (hk : ndOf made o = none) (hl : lkOf made ops o = ks) (hks : ks ≠ []) (hw : Region.wanted o (yielded ops a.tmps) = true)
    (h1 : ∀ (γ : Nat → Value) (w : World), C w → (∀ k ∈ ks, S k (γ k) w) → GUp P (Z i) (fun u _ => u = v) w ((execOp (putG γ ks a).eval o).run P w)) (h : wpG P ops T C Z made S Qf (i + 1) rest (a.put o.dst v)) : wpG P ops T C Z made S Qf i (o :: rest) a := by
  subst hl
  unfold wpG
  rw [if_neg (by rw [hT]; simp), if_pos hw]
  refine ⟨v, ?_, h⟩
  unfold GOk
  rw [hk]
  simp only
  rw [if_neg hks]
  exact h1
theorem gr_end (h : Qf a) : wpG P ops T C Z made S Qf i [] a := h
end
theorem cw_cell {W : World} {p : Addr} {v : Value} (c : W.cell? p = some v) : ∀ n : CW (Keeps W), n.w.cell? p = some v := fun n => kcell n.ok c
instance instCWSome (W : World) : Nonempty (CW (Keeps W)) := ⟨⟨W, Below.refl _ _⟩⟩
theorem keeps_drew (W : World) : Keeps W W.drew := (Below.refl W.heap.size W).drew
theorem keeps_trans {a b c : World} (h : Keeps a b) (k : Keeps b c) : Keeps a c := bstep h (Nat.le_refl _) k
theorem gup_v {P : Program} {R : World → World → Prop} {U : Value → World → Prop} {w w' : World} {v : Value} (h1 : R w w') (h2 : U v w') : GUp P R U w (.ok (.value v) w') := ⟨h1, h2⟩
theorem gup_f {P : Program} {R : World → World → Prop} {U : Value → World → Prop} {w : World} {f : FuncId} {args : Array Value} (h2 : Calls P f args w fun e w'' => ∃ v, e = .returned v ∧ R w w'' ∧ U v w'') : GUp P R U w (.ok (.enter f args) w) := ⟨rfl, h2⟩
end Go.Proofs.Ytlkgmedenbfhkaa
