/- The law for a region that draws its order, in phases (see Phase): every order. -/
import Derived.Test.YtdfklbjkcednhaaPhase
namespace Go.Proofs.Ytdfklbjkcednhaa
open Go.RowKit

section
variable {P : Program} {E : World → Prop} {C : Nat → World → Prop} {B : List (Nat × Nat)} {Z : Nat → World → World → Prop} {made T : List Nat} {S : Nat → Value → World → Prop} {l : List Oper} {a0 : Act} {vals : Nat → Value} {N : Nat} {Q : Exit → Act → World → Prop} {pt : List (List Nat)}

structure HInv (T made : List Nat) (C : Nat → World → Prop) (S : Nat → Value → World → Prop) (l : List Oper) (a0 : Act) (vals : Nat → Value) (N : Nat) (listed : Array Bool) (a : Act) (w : World) (γ : Nat → Value) (p : Nat) : Prop where
  size : listed.size = l.toArray.size
  closed : ∀ (j : Nat) (oj : Oper), l.toArray[j]? = some oj → listed.getD j false = true → ∀ e ∈ oj.after, Region.binds .any e = true → listed.getD e.on false = true
  fsize : a.tmps.size = N
  defs : a.defers = a0.defers
  pl : p ≤ T.length
  on_ : ∀ k, k < p → listed.getD (T.getD k 0) false = true
  off : ∀ k, p ≤ k → k < T.length → listed.getD (T.getD k 0) true = false
  new : ∀ (j : Nat) (o : Oper) (s : Nat), l.toArray[j]? = some o → o.dst = some s → listed.getD j false = true → a.tmps[s]? = some (if s ∈ made then γ s else vals j)
  old : ∀ s : Nat, (∀ (j : Nat) (o : Oper), l.toArray[j]? = some o → listed.getD j false = true → o.dst ≠ some s) → a.tmps[s]? = a0.tmps[s]?
  c : C p w
  s : ∀ d ∈ made, wL l.toArray listed d → S d (γ d) w

theorem wayed_listed {ops : Array Oper} {listed : Array Bool} (hc : ∀ (j : Nat) (oj : Oper), ops[j]? = some oj → listed.getD j false = true → ∀ e ∈ oj.after, Region.binds .any e = true → listed.getD e.on false = true) {x y : Nat} (hw : Wayed ops x y) (h : listed.getD x false = true) : listed.getD y false = true := by
  rcases hw with hw | ⟨p, h1, h2, h3⟩
  · obtain ⟨o, ho, he⟩ := Region.waitsFor_spec hw
    obtain ⟨e, he1, he2, he3⟩ := he
    have := hc x o ho h e he1 he2
    rw [he3] at this
    exact this
  · exact path_listed hc p x y h1 h2 h3 h
/-- what an operation waits for along a way, when it comes up -/
theorem wayed_ready {ops : Array Oper} {listed : Array Bool} (hc : ∀ (j : Nat) (oj : Oper), ops[j]? = some oj → listed.getD j false = true → ∀ e ∈ oj.after, Region.binds .any e = true → listed.getD e.on false = true) {i : Nat} {o : Oper} (ho : ops[i]? = some o) (hall : ∀ e ∈ o.after, Region.binds .any e = true → listed.getD e.on false = true) {y : Nat} (hne : i ≠ y) (hw : Wayed ops i y) : listed.getD y false = true := by
  have one : ∀ z, Region.waitsFor .any ops i z = true → listed.getD z false = true := fun z hz => by
    obtain ⟨o', ho', e, he1, he2, he3⟩ := Region.waitsFor_spec hz
    rw [ho] at ho'
    injection ho' with ho'
    subst ho'
    have := hall e he1 he2
    rw [he3] at this
    exact this
  rcases hw with hw | ⟨p, h1, h2, h3⟩
  · exact one y hw
  · match p, h1, h2, h3 with
    | [x], h1, h2, _ =>
      simp at h1 h2
      exact absurd (h1.symm.trans h2) hne
    | x :: z :: r, h1, h2, h3 =>
      simp at h1
      subst h1
      rw [pathB, Bool.and_eq_true] at h3
      rw [List.getLast?_cons_cons] at h2
      exact path_listed hc (z :: r) z y rfl h2 h3.2 (one z h3.1)

theorem phase_any (hE : ∀ p w, C p w → E w) (hZ : ∀ i, i ∉ T → ∀ p w w', C p w → Z i w w' → C p w') (hT : ∀ k, k < T.length → ∀ w w', C k w → Z (T.getD k 0) w w' → C (k + 1) w')
    (hS : ∀ i, ∀ d ∈ made, dstOf l.toArray i ≠ some d → (∀ j, dstOf l.toArray j = some d → ¬ Wayed l.toArray j i) → ∀ p, (i ∈ T → T.getD p 0 = i) → ∀ v w w', C p w → S d v w → Z i w w' → S d v w') (ok : PhaseOk T made B N l.toArray) (hN : a0.tmps.size = N)
    (hok : ∀ (j : Nat) (o : Oper), l[j]? = some o → HAt P l.toArray T E C B Z made S j o (frs a0 l vals j) (vals j))
    (hQ : ∀ (γ : Nat → Value) (w : World), C T.length w → (∀ d ∈ made, S d (γ d) w) → Q .normal (putG γ made (frs a0 l vals l.length)) w) :
    ∀ (fuel : Nat) (listed : Array Bool) (a : Act) (w : World) (γ : Nat → Value) (p : Nat), HInv T made C S l a0 vals N listed a w γ p → cnt listed = fuel → wpAny P .any l.toArray Q fuel listed a w := by
  have hli : ∀ j : Nat, l.toArray[j]? = l[j]? := fun j => List.getElem?_toArray
  have b0n : ∀ (γ : Nat → Value) (j : Nat) (o : Oper) (s : Nat), l.toArray[j]? = some o → o.dst = some s → (putG γ made (frs a0 l vals l.length)).tmps[s]? = some (if s ∈ made then γ s else vals j) := fun γ j o s hj hd => by
    have hj' : l[j]? = some o := by rw [← hli]; exact hj
    by_cases hm : s ∈ made
    · rw [if_pos hm, putG_new γ s made _ hm (by rw [(frs_size a0 l vals _).1, hN]; exact ok.msize s hm)]
    · rw [if_neg hm, putG_old γ s made _ hm]
      exact frs_new a0 l vals s j o hj' hd (by rw [hN]; exact ok.size j o s hj hd) (fun j' o' h' hne hd' => hne (ok.dist j' j o' o s (by rw [hli]; exact h') hj hd' hd)) l.length (List.getElem?_eq_some_iff.1 hj').1
  have b0o : ∀ (γ : Nat → Value) (s : Nat), (∀ (j : Nat) (o : Oper), l.toArray[j]? = some o → o.dst ≠ some s) → (putG γ made (frs a0 l vals l.length)).tmps[s]? = a0.tmps[s]? := fun γ s hs => by
    have hm : s ∉ made := fun hm => by
      obtain ⟨j, oj, hj, hd⟩ := ok.has s hm
      exact hs j oj hj hd
    rw [putG_old γ s made _ hm]
    exact frs_old a0 l vals s l.length (fun j o _ hj => hs j o (by rw [hli]; exact hj))
  have fin : ∀ (listed : Array Bool) (a : Act) (w : World) (γ : Nat → Value) (p : Nat), HInv T made C S l a0 vals N listed a w γ p → (∀ i, i < listed.size → listed.getD i false = true) → Q .normal a w := by
    intro listed a w γ p inv hall
    have all : ∀ (j : Nat) (o : Oper), l.toArray[j]? = some o → listed.getD j false = true := fun j o hj => hall j (by rw [inv.size]; exact lt_of_some hj)
    have hp : p = T.length := by
      rcases Nat.lt_or_ge p T.length with h | h
      · exfalso
        have h1 := inv.off p (Nat.le_refl _) h
        have h2 : T.getD p 0 < listed.size := by
          rw [inv.size]
          refine ok.tin _ ?_
          rw [getD_elem h]
          exact List.getElem_mem h
        have h3 := getD_of (hall _ h2)
        rw [h1] at h3
        cases h3
      · exact Nat.le_antisymm inv.pl h
    have same : a = putG γ made (frs a0 l vals l.length) := by
      have e1 : a.tmps = (putG γ made (frs a0 l vals l.length)).tmps := by
        apply Array.ext_getElem?
        intro k
        by_cases hex : ∃ (j : Nat) (oj : Oper), l.toArray[j]? = some oj ∧ oj.dst = some k
        · obtain ⟨j, oj, hj, dj⟩ := hex
          rw [inv.new j oj k hj dj (all j oj hj), b0n γ j oj k hj dj]
        · have hno : ∀ (j : Nat) (oj : Oper), l.toArray[j]? = some oj → oj.dst ≠ some k := fun j oj hj hd => hex ⟨j, oj, hj, hd⟩
          rw [inv.old k (fun j oj hj _ => hno j oj hj), b0o γ k hno]
      have e2 : a.defers = (putG γ made (frs a0 l vals l.length)).defers := by rw [(putG_size γ made _).2, (frs_size a0 l vals _).2]; exact inv.defs
      generalize putG γ made (frs a0 l vals l.length) = b at *
      obtain ⟨t1, d1⟩ := a
      obtain ⟨t2, d2⟩ := b
      simp only at e1 e2
      subst e1 e2
      rfl
    rw [same]
    exact hQ γ w (hp ▸ inv.c) (fun d hd => inv.s d hd (by obtain ⟨j, oj, hj, hk⟩ := ok.has d hd; exact ⟨j, oj, hj, hk, all j oj hj⟩))
  intro fuel
  induction fuel with
  | zero =>
    intro listed a w γ p inv hc
    have hall : ∀ i, i < listed.size → listed.getD i false = true := fun i hi => cnt_zero hc i hi
    refine ⟨?_, fin listed a w γ p inv hall⟩
    rw [List.eq_nil_iff_forall_not_mem]
    intro i hi
    obtain ⟨h1, o, ho, _⟩ := mem_ready.1 hi
    have h2 := hall i (by rw [inv.size]; exact lt_of_some ho)
    rw [getD_both h1] at h2
    cases h2
  | succ fuel ih =>
    intro listed a w γ p inv hc
    constructor
    · intro hr
      exfalso
      have hex : ∃ i, i < listed.size ∧ listed.getD i false = false := by
        refine Classical.byContradiction fun hne => ?_
        have hall : ∀ i, i < listed.size → listed.getD i false = true := fun i hi => by
          cases h : listed.getD i false with
          | true => rfl
          | false => exact absurd ⟨i, hi, h⟩ hne
        have : cnt listed = 0 := by
          unfold cnt
          rw [List.length_eq_zero_iff, List.filter_eq_nil_iff]
          intro b hb
          obtain ⟨i, hi, he⟩ := List.mem_iff_getElem.1 hb
          have h1 := hall i (by simpa using hi)
          have hi' : i < listed.size := by simpa using hi
          simp [hi'] at h1
          simp at he
          rw [← he, h1]
          simp
        omega
      obtain ⟨i0, hi0, hu0⟩ := hex
      have hmin : ∃ i, i < listed.size ∧ listed.getD i false = false ∧ ∀ j, j < i → listed.getD j false = true := by
        induction i0 using Nat.strongRecOn with
        | _ i0 ihm =>
          by_cases h : ∃ j, j < i0 ∧ listed.getD j false = false
          · obtain ⟨j, hj, hju⟩ := h
            exact ihm j hj (by omega) hju
          · refine ⟨i0, hi0, hu0, fun j hj => ?_⟩
            cases hjv : listed.getD j false with
            | true => rfl
            | false => exact absurd ⟨j, hj, hjv⟩ h
      obtain ⟨i, hi, hu, hlt⟩ := hmin
      have hil : i < l.toArray.size := by rw [← inv.size]; exact hi
      have : i ∈ Region.ready .any l.toArray listed := mem_ready.2 ⟨getD_in hi hu, l.toArray[i], by simp [Array.getElem?_eq_getElem hil], fun e he hb => hlt _ (ok.back i _ (Array.getElem?_eq_getElem hil) e he hb)⟩
      rw [hr] at this
      cases this
    · intro i hi
      obtain ⟨hun, o, ho, hall⟩ := mem_ready.1 hi
      have hol : l[i]? = some o := by rw [← List.getElem?_toArray]; exact ho
      have hcn : cnt (listed.setIfInBounds i true) = fuel := by have := cnt_step hun; omega
      have hsz : i < listed.size := by rw [inv.size]; exact lt_of_some ho
      have listedOf : ∀ j, Region.waitsFor .any l.toArray i j = true → listed.getD j false = true := fun j hw => by
        obtain ⟨e, he, hb, hon⟩ := waits_mem ho hw
        have := hall e he hb
        rw [hon] at this
        exact this
      have notListed : ∀ (j : Nat) (oj : Oper), l.toArray[j]? = some oj → Region.waitsFor .any l.toArray j i = true → listed.getD j false = true → False := fun j oj hj hw hl => by
        obtain ⟨e, he, hb, hon⟩ := waits_mem hj hw
        have := inv.closed j oj hj hl e he hb
        rw [hon, getD_both hun] at this
        cases this
      have closed' : ∀ (j : Nat) (oj : Oper), l.toArray[j]? = some oj → (listed.setIfInBounds i true).getD j false = true → ∀ e ∈ oj.after, Region.binds .any e = true → (listed.setIfInBounds i true).getD e.on false = true := fun j oj hj hl e he hb => by
        by_cases hij : i = j
        · subst hij
          rw [ho] at hj
          injection hj with hj
          subst hj
          exact getD_set_true (hall e he hb)
        · rw [getD_set_ne false hij] at hl
          exact getD_set_true (inv.closed j oj hj hl e he hb)
      have hO := hok i o hol
      -- the phase
      have onp : ∀ k, k < T.length → listed.getD (T.getD k 0) false = true → k < p := fun k hk h => by
        refine Classical.byContradiction fun hge => ?_
        have h1 := inv.off k (by omega) hk
        have h2 := getD_of h
        rw [h1] at h2
        cases h2
      have inB : hfree made l.toArray i o = false → (B.getD i (0, 0)).1 ≤ p ∧ p ≤ (B.getD i (0, 0)).2 := fun hf => by
        constructor
        · obtain ⟨h1, h2⟩ := ok.lo i o ho hf
          rcases h2 with h2 | h2
          · omega
          · rcases Nat.eq_zero_or_pos (B.getD i (0, 0)).1 with h0 | h0
            · omega
            · have hne : i ≠ T.getD ((B.getD i (0, 0)).1 - 1) 0 := fun e => by
                have h3 := ok.own ((B.getD i (0, 0)).1 - 1) (by omega)
                rw [← e] at h3
                generalize B.getD i (0, 0) = b at *
                obtain ⟨b1, b2⟩ := b
                injection h3 with h4 h5
                simp only at h0
                omega
              have := onp _ (by omega) (wayed_ready inv.closed ho hall hne h2)
              omega
        · rcases ok.hi i o ho hf with h1 | h1 | h1
          · have := inv.pl; omega
          · refine Classical.byContradiction fun hge => ?_
            have := inv.on_ (B.getD i (0, 0)).2 (by omega)
            rw [h1] at this
            have := getD_of this
            rw [hun] at this
            cases this
          · refine Classical.byContradiction fun hge => ?_
            have := getD_of (wayed_listed inv.closed h1 (inv.on_ (B.getD i (0, 0)).2 (by omega)))
            rw [hun] at this
            cases this
      have cr : hfree made l.toArray i o = false → CR C (B.getD i (0, 0)) w := fun hf => ⟨p, (inB hf).1, (inB hf).2, inv.c⟩
      have agree : ∀ s ∈ o.looksAt l.toArray, s ∉ lkI made l.toArray i o → a.tmps[s]? = (frs a0 l vals i).tmps[s]? := fun s hs hsl => by
        by_cases hex : ∃ (j : Nat) (oj : Oper), l.toArray[j]? = some oj ∧ oj.dst = some s
        · obtain ⟨j, oj, hj, dj⟩ := hex
          rcases ok.look i j o oj s ho hj hs dj with ⟨hlt, hw⟩ | ⟨hlt, hw⟩
          · have hsm : s ∉ made := fun hm => hsl (List.mem_filter.2 ⟨hm, by simp only [Bool.and_eq_true, List.any_eq_true, List.mem_range]; exact ⟨by simpa using hs, j, hlt, by simpa [dstOf, hj] using dj⟩⟩)
            rw [inv.new j oj s hj dj (listedOf j hw), if_neg hsm]
            rw [frs_new a0 l vals s j oj (by rw [← hli]; exact hj) dj (by rw [hN]; exact ok.size j oj s hj dj) (fun j' o' hj' hne hd' => hne (ok.dist j' j o' oj s (by rw [hli]; exact hj') hj hd' dj)) i hlt]
          · have hnl : listed.getD j false = true → False := notListed j oj hj hw
            rw [inv.old s (fun j' o' hj' hl' hd' => by have := ok.dist j' j o' oj s hj' hj hd' dj; subst this; exact hnl hl'),
              frs_old a0 l vals s i (fun j' o' hlt' hj' hd' => by have := ok.dist j' j o' oj s (by rw [hli]; exact hj') hj hd' dj; omega)]
        · have hno : ∀ (j : Nat) (oj : Oper), l.toArray[j]? = some oj → oj.dst ≠ some s := fun j oj hj hd => hex ⟨j, oj, hj, hd⟩
          rw [inv.old s (fun j oj hj _ => hno j oj hj), frs_old a0 l vals s i (fun j oj _ hj => hno j oj (by rw [hli]; exact hj))]
      have hlk : ∀ k ∈ lkI made l.toArray i o, k ∈ made ∧ k ∈ o.looksAt l.toArray := fun k hk => by
        have := List.mem_filter.1 hk
        have h2 := this.2
        rw [Bool.and_eq_true] at h2
        exact ⟨this.1, by simpa using h2.1⟩
      have hwr : ∀ k ∈ lkI made l.toArray i o, wL l.toArray listed k ∧ a.tmps[k]? = some (γ k) := fun k hk => by
        obtain ⟨h1, h2⟩ := hlk k hk
        obtain ⟨j, oj, hj, dj, hw⟩ := ok.made_ i o k ho hk
        have hl := listedOf j hw
        refine ⟨⟨j, oj, hj, dj, hl⟩, ?_⟩
        rw [inv.new j oj k hj dj hl, if_pos h1]
      have hag : ∀ k ∈ o.looksAt l.toArray, a.tmps[k]? = (putG γ (lkI made l.toArray i o) (frs a0 l vals i)).tmps[k]? := fun k hk => by
        by_cases hk2 : k ∈ lkI made l.toArray i o
        · rw [(hwr k hk2).2, putG_new γ k _ _ hk2 (by rw [(frs_size a0 l vals i).1, hN]; exact ok.msize k (hlk k hk2).1)]
        · rw [putG_old γ k _ _ hk2]
          exact agree k hk hk2
      have hx := exec_agree o (fun cs b => ok.sel i o cs b ho) hag
      have hw : Region.wanted o (yielded l.toArray a.tmps) = Region.wanted o (yielded l.toArray (frs a0 l vals i).tmps) := by
        unfold Region.wanted
        cases hg : o.guard with
        | none => rfl
        | some gb =>
          obtain ⟨g, bb⟩ := gb
          have : yielded l.toArray a.tmps g = yielded l.toArray (frs a0 l vals i).tmps g := by
            unfold yielded
            cases hd : (l.toArray[g]?).bind (·.dst) with
            | none => rfl
            | some k =>
              have hk : k ∈ o.looksAt l.toArray := by
                have hd2 := hd
                simp only [List.getElem?_toArray] at hd2
                unfold Oper.looksAt
                simp [hg, hd2]
              simp only [Option.bind_some, agree k hk (fun h => ok.grd i o g bb k ho hg hd (hlk k h).1)]
          simp only [this]
      -- what goes on
      have cont : ∀ (v : Value) (γ' : Nat → Value) (w' : World), (∀ s, o.dst = some s → v = if s ∈ made then γ' s else vals i) → (∀ d, o.dst ≠ some d → γ' d = γ d) →
          ((i ∉ T → C p w') ∧ (i ∈ T → C (p + 1) w')) → (∀ d ∈ made, wL l.toArray (listed.setIfInBounds i true) d → S d (γ' d) w') → wpAny P .any l.toArray Q fuel (listed.setIfInBounds i true) (a.put o.dst v) w' := by
        intro v γ' w' hv hγ hC hS'
        have hnew : ∀ (j : Nat) (o' : Oper) (s : Nat), l.toArray[j]? = some o' → o'.dst = some s → (listed.setIfInBounds i true).getD j false = true → (a.put o.dst v).tmps[s]? = some (if s ∈ made then γ' s else vals j) := fun j oj s hj hd hl => by
          by_cases hij : i = j
          · subst hij
            rw [ho] at hj
            injection hj with hj
            subst hj
            rw [hd, put_at _ _ _ (by rw [inv.fsize]; exact ok.size i o s ho hd), hv s hd]
          · rw [getD_set_ne false hij] at hl
            have hne : o.dst ≠ some s := fun e => hij (ok.dist i j o oj s ho hj e hd)
            rw [put_get _ _ _ _ hne, inv.new j oj s hj hd hl, hγ s hne]
        have hold : ∀ s : Nat, (∀ (j : Nat) (o' : Oper), l.toArray[j]? = some o' → (listed.setIfInBounds i true).getD j false = true → o'.dst ≠ some s) → (a.put o.dst v).tmps[s]? = a0.tmps[s]? := fun s hs => by
          have h1 : o.dst ≠ some s := hs i o ho (by simp [hsz])
          rw [put_get _ _ _ _ h1]
          exact inv.old s fun j oj hj hl => hs j oj hj (getD_set_true hl)
        by_cases hiT : i ∈ T
        · obtain ⟨k, hkl, hki⟩ := List.getElem_of_mem hiT
          have hkD : T.getD k 0 = i := by rw [getD_elem hkl, hki]
          have hown := ok.own k hkl
          rw [hkD] at hown
          have hfr : hfree made l.toArray i o = false := by
            cases hf : hfree made l.toArray i o with
            | false => rfl
            | true => exact absurd hiT (ok.ft i o ho hf)
          have hb := inB hfr
          rw [hown] at hb
          have hkp : k = p := by simp only at hb; omega
          subst hkp
          refine ih _ _ _ γ' (k + 1) ⟨by simp [inv.size], closed', by rw [put_size]; exact inv.fsize, by rw [put_defs]; exact inv.defs, hkl, fun k' hk' => ?_, fun k' hk' hk2 => ?_, hnew, hold, hC.2 hiT, hS'⟩ hcn
          · by_cases e : k' = k
            · subst e
              rw [hkD]
              simp [hsz]
            · exact getD_set_true (inv.on_ k' (by omega))
          · have hne : i ≠ T.getD k' 0 := fun e => by
              have h3 := ok.own k' hk2
              rw [← e, hown] at h3
              injection h3 with h4 h5
              omega
            rw [getD_set_ne true hne]
            exact inv.off k' (by omega) hk2
        · refine ih _ _ _ γ' p ⟨by simp [inv.size], closed', by rw [put_size]; exact inv.fsize, by rw [put_defs]; exact inv.defs, inv.pl, fun k' hk' => getD_set_true (inv.on_ k' hk'), fun k' hk' hk2 => ?_, hnew, hold, hC.1 hiT, hS'⟩ hcn
          rw [getD_set_ne true (fun e => hiT (by rw [e, getD_elem hk2]; exact List.getElem_mem hk2))]
          exact inv.off k' hk' hk2
      have spw : ∀ d ∈ made, o.dst ≠ some d → wL l.toArray (listed.setIfInBounds i true) d → wL l.toArray listed d := fun d _ hne h => wl_other ho hne h
      have tp : i ∈ T → T.getD p 0 = i := fun hiT => by
        obtain ⟨k, hkl, hki⟩ := List.getElem_of_mem hiT
        have hkD : T.getD k 0 = i := by rw [getD_elem hkl, hki]
        have hown := ok.own k hkl
        rw [hkD] at hown
        have hfr : hfree made l.toArray i o = false := by
          cases hf : hfree made l.toArray i o with
          | false => rfl
          | true => exact absurd hiT (ok.ft i o ho hf)
        have hb := inB hfr
        rw [hown] at hb
        have hkp : k = p := by simp only at hb; omega
        subst hkp
        exact hkD
      have notYet : ∀ d, wL l.toArray listed d → ∀ j, dstOf l.toArray j = some d → ¬ Wayed l.toArray j i := fun d hL j hj hway => by
        obtain ⟨j', oj', hj', dj', hl'⟩ := hL
        have hjj : j = j' := by
          cases ho2 : l.toArray[j]? with
          | none => unfold dstOf at hj; rw [ho2] at hj; cases hj
          | some oj =>
            have : oj.dst = some d := by unfold dstOf at hj; rw [ho2] at hj; simpa using hj
            exact ok.dist j j' oj oj' d ho2 hj' this dj'
        subst hjj
        have := getD_of (wayed_listed inv.closed hway hl')
        rw [hun] at this
        cases this
      -- the class behind it
      have turned : ∀ w', Z i w w' → (i ∉ T → C p w') ∧ (i ∈ T → C (p + 1) w') := fun w' hz => by
        refine ⟨fun hiT => hZ i hiT p w w' inv.c hz, fun hiT => ?_⟩
        obtain ⟨k, hkl, hki⟩ := List.getElem_of_mem hiT
        have hkD : T.getD k 0 = i := by rw [getD_elem hkl, hki]
        have hown := ok.own k hkl
        rw [hkD] at hown
        have hfr : hfree made l.toArray i o = false := by
          cases hf : hfree made l.toArray i o with
          | false => rfl
          | true => exact absurd hiT (ok.ft i o ho hf)
        have hb := inB hfr
        rw [hown] at hb
        have hkp : k = p := by simp only at hb; omega
        subst hkp
        exact hT k hkl w w' inv.c (by rw [hkD]; exact hz)
      have same : i ∉ T → (∀ s, o.dst = some s → s ∉ made) → wpAny P .any l.toArray Q fuel (listed.setIfInBounds i true) (a.put o.dst (vals i)) w := fun hiT hdm =>
        cont (vals i) γ w (fun s hs => by rw [if_neg (hdm s hs)]) (fun _ _ => rfl) ⟨fun _ => inv.c, fun h => absurd h hiT⟩ (fun d hd h => inv.s d hd (spw d hd (fun e => hdm d e hd) h))
      have keepZ : (∀ s, o.dst = some s → s ∉ made) → ∀ w', Z i w w' → wpAny P .any l.toArray Q fuel (listed.setIfInBounds i true) (a.put o.dst (vals i)) w' := fun hdm w' hz =>
        cont (vals i) γ w' (fun s hs => by rw [if_neg (hdm s hs)]) (fun _ _ => rfl) (turned w' hz) (fun d hd h => by
          have hne : o.dst ≠ some d := fun e => hdm d e hd
          exact hS i d hd (by simp [dstOf, hol]; exact hne) (notYet d (spw d hd hne h)) p tp _ _ _ inv.c (inv.s d hd (spw d hd hne h)) hz)
      have goMade : ∀ d, o.dst = some d → d ∈ made → ∀ v w', Z i w w' → S d v w' → wpAny P .any l.toArray Q fuel (listed.setIfInBounds i true) (a.put o.dst v) w' := fun d hd hm v w' hz hs =>
        cont v (fun d' => if o.dst = some d' then v else γ d') w' (fun s hs' => by rw [hd] at hs'; injection hs' with hs'; subst hs'; rw [if_pos hm, if_pos hd]) (fun d' hne => by rw [if_neg hne])
          (turned w' hz) (fun d' hd' hL => by
            by_cases e : o.dst = some d'
            · rw [if_pos e]
              rw [hd] at e
              injection e with e
              subst e
              exact hs
            · rw [if_neg e]
              exact hS i d' hd' (by simp [dstOf, hol]; exact e) (notYet d' (spw d' hd' e hL)) p tp _ _ _ inv.c (inv.s d' hd' (spw d' hd' e hL)) hz)
      unfold wpOp
      simp only [ho]
      rcases hO with ⟨hw1, hq⟩ | ⟨hw1, hv, hno⟩
      · rw [if_pos (hw.trans hw1)]
        left
        unfold Oper.wp
        rw [hx]
        unfold HOk at hq
        have useN : ∀ U : Value → World → Prop, (∀ v w', Z i w w' → U v w' → wpAny P .any l.toArray Q fuel (listed.setIfInBounds i true) (a.put o.dst v) w') →
            GUp P (Z i) U w ((execOp (putG γ (lkI made l.toArray i o) (frs a0 l vals i)).eval o).run P w) →
            Oper.upon P o a (wpAny P .any l.toArray Q fuel (listed.setIfInBounds i true)) Q ((execOp (putG γ (lkI made l.toArray i o) (frs a0 l vals i)).eval o).run P w) := by
          intro U hU hn
          generalize (execOp (putG γ (lkI made l.toArray i o) (frs a0 l vals i)).eval o).run P w = r at *
          cases r with
          | ok n w' =>
            cases n <;> simp only [GUp] at hn <;> simp only [Oper.upon]
            case value u => exact hU u w' hn.1 hn.2
            case skip => exact hU undef w' hn.1 hn.2
            case enter f args => obtain ⟨e1, hc1⟩ := hn; rw [e1]; exact hc1.mono fun e w'' ⟨v, he, h1, h2⟩ => by subst he; exact hU v w'' h1 h2
          | halt x w' => simp only [GUp] at hn
        cases hnd : ndOf made o with
        | some d =>
          rw [hnd] at hq
          simp only at hq
          obtain ⟨hd, hm⟩ := nd_some hnd
          exact useN (S d) (goMade d hd hm) (hq.2 γ w (cr (by unfold hfree; rw [hnd]; simp)) (fun k hk => inv.s k (hlk k hk).1 (hwr k hk).1))
        | none =>
          rw [hnd] at hq
          simp only at hq
          have hdm : ∀ s, o.dst = some s → s ∉ made := fun s hs => nd_none hnd hs
          by_cases hlk0 : lkI made l.toArray i o = []
          · rw [if_pos hlk0] at hq
            by_cases hf : freeOp o = true
            · rw [if_pos hf] at hq
              have hfr : i ∉ T := ok.ft i o ho (by unfold hfree; rw [hf, hnd, hlk0]; rfl)
              rw [hlk0]
              simp only [putG]
              have h3 := hq w ⟨⟨w⟩, rfl⟩
              have hpl := free_plain hf
              unfold Oper.quietAt at h3
              have hne := fun w' f args => plain_not_enter (P := P) hpl (frs a0 l vals i).eval w w' f args
              generalize (execOp (frs a0 l vals i).eval o).run P w = r at *
              cases r with
              | ok n w' =>
                cases n <;> simp only [Oper.quietUpon] at h3 <;> simp only [Oper.upon]
                case value u => obtain ⟨e1, e2⟩ := h3; rw [e1, e2]; exact same hfr hdm
                case skip => obtain ⟨e1, e2⟩ := h3; rw [e1, ← e2]; exact same hfr hdm
                case enter f args => exact absurd rfl (hne w' f args)
              | halt x w' => simp only [Oper.quietUpon] at h3
            · rw [if_neg hf] at hq
              by_cases hpl : plain o = true
              · rw [if_pos hpl] at hq
                have hfr : i ∉ T := ok.ft i o ho (by unfold hfree; rw [hpl, hnd, hlk0]; simp)
                rw [hlk0]
                simp only [putG]
                have h3 := hq w ⟨⟨w, hE p w inv.c⟩, rfl⟩
                unfold Oper.quietAt at h3
                have hne := fun w' f args => plain_not_enter (P := P) hpl (frs a0 l vals i).eval w w' f args
                generalize (execOp (frs a0 l vals i).eval o).run P w = r at *
                cases r with
                | ok n w' =>
                  cases n <;> simp only [Oper.quietUpon] at h3 <;> simp only [Oper.upon]
                  case value u => obtain ⟨e1, e2⟩ := h3; rw [e1, e2]; exact same hfr hdm
                  case skip => obtain ⟨e1, e2⟩ := h3; rw [e1, ← e2]; exact same hfr hdm
                  case enter f args => exact absurd rfl (hne w' f args)
                | halt x w' => simp only [Oper.quietUpon] at h3
              · rw [if_neg hpl] at hq
                have hcr := cr (by unfold hfree; simp at hf hpl; rw [hf, hpl]; rfl)
                have := hq w hcr
                exact useN (fun u _ => u = vals i) (fun v w' hz hv => by rw [hv]; exact keepZ hdm w' hz) (by rw [hlk0]; exact this)
          · rw [if_neg hlk0] at hq
            have hcr := cr (by unfold hfree; cases h : lkI made l.toArray i o with | nil => exact absurd h hlk0 | cons x r => simp)
            exact useN (fun u _ => u = vals i) (fun v w' hz hv => by rw [hv]; exact keepZ hdm w' hz) (hq γ w hcr (fun k hk => inv.s k (hlk k hk).1 (hwr k hk).1))
      · rw [if_neg (by rw [hw, hw1]; simp)]
        have hC2 : (i ∉ T → C p w) ∧ (i ∈ T → C (p + 1) w) := ⟨fun _ => inv.c, fun hiT => by
          have hfr : hfree made l.toArray i o = false := by
            cases hf : hfree made l.toArray i o with
            | false => rfl
            | true => exact absurd hiT (ok.ft i o ho hf)
          exact (turned w (hno.2 (by simpa using hiT) w (cr hfr))).2 hiT⟩
        by_cases hdm : ∃ d, o.dst = some d ∧ d ∈ made
        · obtain ⟨d, hd, hm⟩ := hdm
          have hnd := nd_in hd hm
          exact cont undef (fun d' => if o.dst = some d' then undef else γ d') w (fun s hs' => by rw [hd] at hs'; injection hs' with hs'; subst hs'; rw [if_pos hm, if_pos hd]) (fun d' hne => by rw [if_neg hne])
            hC2 (fun d' hd' hL => by
              by_cases e : o.dst = some d'
              · rw [if_pos e]
                rw [hd] at e
                injection e with e
                subst e
                exact hno.1 d hnd w (cr (by unfold hfree; rw [hnd]; simp))
              · rw [if_neg e]
                exact inv.s d' hd' (spw d' hd' e hL))
        · have := cont (vals i) γ w (fun s hs => by rw [if_neg (fun hm => hdm ⟨s, hs, hm⟩)]) (fun _ _ => rfl) hC2 (fun d hd h => inv.s d hd (spw d hd (fun e => hdm ⟨d, e, hd⟩) h))
          rw [hv] at this
          exact this

/-- ONE WALK, IN THE ORDER OF THE TEXT, PHASE BY PHASE: EVERY ORDER. -/
theorem wp_region_phase {id : Nat} {a : Act} {w0 : World} (E : World → Prop) (C : Nat → World → Prop) (Z : Nat → World → World → Prop) (made : List Nat) (S : Nat → Value → World → Prop) (T : List Nat) (B : List (Nat × Nat)) (pt : List (List Nat)) (N : Nat) (h0 : C 0 w0.drew) (hE : ∀ p w, C p w → E w)
    (hZ : ∀ i, i ∉ T → ∀ p w w', C p w → Z i w w' → C p w') (hT : ∀ k, k < T.length → ∀ w w', C k w → Z (T.getD k 0) w w' → C (k + 1) w')
    (hS : ∀ i, ∀ d ∈ made, dstOf l.toArray i ≠ some d → (∀ j, dstOf l.toArray j = some d → ¬ Wayed l.toArray j i) → ∀ p, (i ∈ T → T.getD p 0 = i) → ∀ v w w', C p w → S d v w → Z i w w' → S d v w') (hm : P.follows .mixedOrders = true) (hB : phaseB T made B pt N l.toArray = true) (hN : a.tmps.size = N)
    (h : wpH P l.toArray T E C B Z made S (fun aF => ∀ (γ : Nat → Value) (w : World), C T.length w → (∀ d ∈ made, S d (γ d) w) → Q .normal (putG γ made aF) w) 0 l a) :
    (Code.region id l.toArray true).wp P Q a w0 := by
  have ok := phase_spec hB
  obtain ⟨vals, hok, hfin⟩ := h_ext l 0 a h
  refine wp_region_any hm ?_
  have hf : ∀ j, (Array.replicate l.toArray.size false).getD j false = true → False := fun j hj => by rw [getD_replicate_false] at hj; cases hj
  refine phase_any (vals := vals) hE hZ hT hS ok hN (fun j o hj => by have := hok j o hj; rwa [Nat.zero_add] at this) hfin l.toArray.size _ a _ (fun _ => undef) 0 ⟨by simp, fun j oj _ hl => (hf j hl).elim, hN, rfl, Nat.zero_le _, fun k hk => absurd hk (Nat.not_lt_zero _), fun k _ hk => ?_, fun j o s _ _ hl => (hf j hl).elim, fun s _ => rfl, h0, fun d _ ⟨j, o, _, _, hl⟩ => (hf j hl).elim⟩ (by simp [cnt])
  have hin : T.getD k 0 < l.toArray.size := ok.tin _ (by rw [getD_elem hk]; exact List.getElem_mem hk)
  exact getD_in (by simpa using hin) (getD_replicate_false _ _)

/-! the steps of the walk -/
variable {ops : Array Oper} {Qf : Act → Prop} {o : Oper} {rest : List Oper} {a : Act} {i : Nat}
theorem ph_free (hk : ndOf made o = none) (hl : lkI made ops i o = []) (hf : freeOp o = true) (hw : Region.wanted o (yielded ops a.tmps) = true) (h : ∀ K : Act → Prop, (∀ a, wpH P ops T E C B Z made S Qf (i + 1) rest a → K a) → o.quiet P a (fun w => ∃ n : AnyW, w = n.w) K) : wpH P ops T E C B Z made S Qf i (o :: rest) a := by
  obtain ⟨v, h1, h2⟩ := h _ (fun _ h => h)
  unfold wpH
  rw [if_pos hw]
  refine ⟨v, ?_, h2⟩
  unfold HOk
  rw [hk]
  simp only
  rw [if_pos hl, if_pos hf]
  exact h1
theorem ph_q (hk : ndOf made o = none) (hl : lkI made ops i o = []) (hf : freeOp o = false) (hp : plain o = true) (hw : Region.wanted o (yielded ops a.tmps) = true) (h : ∀ K : Act → Prop, (∀ a, wpH P ops T E C B Z made S Qf (i + 1) rest a → K a) → o.quiet P a (fun w => ∃ n : CW E, w = n.w) K) : wpH P ops T E C B Z made S Qf i (o :: rest) a := by
  obtain ⟨v, h1, h2⟩ := h _ (fun _ h => h)
  unfold wpH
  rw [if_pos hw]
  refine ⟨v, ?_, h2⟩
  unfold HOk
  rw [hk]
  simp only
  rw [if_pos hl, hf, if_neg (by simp), if_pos hp]
  exact h1
theorem ph_call (b : Nat × Nat) (hb : B.getD i (0, 0) = b) (hk : ndOf made o = none) (hl : lkI made ops i o = []) (hp : plain o = false) (hw : Region.wanted o (yielded ops a.tmps) = true) (h : ∀ K : Act → Prop, (∀ a, wpH P ops T E C B Z made S Qf (i + 1) rest a → K a) → ∃ v, (∀ n : CW (CR C b), GUp P (Z i) (fun u _ => u = v) n.w ((execOp a.eval o).run P n.w)) ∧ K (a.put o.dst v)) : wpH P ops T E C B Z made S Qf i (o :: rest) a := by
  subst hb
  obtain ⟨v, h1, h2⟩ := h _ (fun _ h => h)
  unfold wpH
  rw [if_pos hw]
  refine ⟨v, ?_, h2⟩
  unfold HOk
  rw [hk]
  simp only
  have hf : freeOp o = false := by
    cases h : freeOp o with
    | false => rfl
    | true => rw [free_plain h] at hp; cases hp
  rw [if_pos hl, hf, if_neg (by simp), hp, if_neg (by simp)]
  exact fun w hw => h1 ⟨w, hw⟩
theorem ph_no (hk : ndOf made o = none) (ht : T.contains i = false) (hw : Region.wanted o (yielded ops a.tmps) = false) (h : wpH P ops T E C B Z made S Qf (i + 1) rest (a.put o.dst undef)) : wpH P ops T E C B Z made S Qf i (o :: rest) a := by
  unfold wpH
  rw [if_neg (by rw [hw]; simp)]
  exact ⟨⟨(fun d hd => by rw [hk] at hd; cases hd), fun h => by rw [ht] at h; cases h⟩, h⟩
theorem ph_noT (b : Nat × Nat) (hb : B.getD i (0, 0) = b) (hk : ndOf made o = none) (hw : Region.wanted o (yielded ops a.tmps) = false) (h1 : ∀ w, CR C b w → Z i w w) (h : wpH P ops T E C B Z made S Qf (i + 1) rest (a.put o.dst undef)) : wpH P ops T E C B Z made S Qf i (o :: rest) a := by
  subst hb
  unfold wpH
  rw [if_neg (by rw [hw]; simp)]
  exact ⟨⟨(fun d hd => by rw [hk] at hd; cases hd), fun _ => h1⟩, h⟩
theorem ph_n (d : Nat) (ks : List Nat) (b : Nat × Nat) (hb : B.getD i (0, 0) = b) (hk : ndOf made o = some d) (hl : lkI made ops i o = ks) (hw : Region.wanted o (yielded ops a.tmps) = true)
    (h1 : ∀ (γ : Nat → Value) (w : World), CR C b w → (∀ k ∈ ks, S k (γ k) w) → GUp P (Z i) (S d) w ((execOp (putG γ ks a).eval o).run P w)) (h : wpH P ops T E C B Z made S Qf (i + 1) rest (a.put o.dst undef)) : wpH P ops T E C B Z made S Qf i (o :: rest) a := by
  subst hl hb
  unfold wpH
  rw [if_pos hw]
  refine ⟨undef, ?_, h⟩
  unfold HOk
  rw [hk]
  exact ⟨rfl, h1⟩
theorem ph_u (v : Value) (ks : List Nat) (b : Nat × Nat) (hb : B.getD i (0, 0) = b) (hk : ndOf made o = none) (hl : lkI made ops i o = ks) (hks : ks ≠ []) (hw : Region.wanted o (yielded ops a.tmps) = true)
    (h1 : ∀ (γ : Nat → Value) (w : World), CR C b w → (∀ k ∈ ks, S k (γ k) w) → GUp P (Z i) (fun u _ => u = v) w ((execOp (putG γ ks a).eval o).run P w)) (h : wpH P ops T E C B Z made S Qf (i + 1) rest (a.put o.dst v)) : wpH P ops T E C B Z made S Qf i (o :: rest) a := by
  subst hl hb
  unfold wpH
  rw [if_pos hw]
  refine ⟨v, ?_, h⟩
  unfold HOk
  rw [hk]
  simp only
  rw [if_neg hks]
  exact h1
theorem ph_end (h : Qf a) : wpH P ops T E C B Z made S Qf i [] a := h
end
/-- a class for all phases that holds of a world -/
theorem cr_of {C : Nat → World → Prop} {b : Nat × Nat} {F : World → Prop} {w : World} (h : CR C b w) (k : ∀ p, b.1 ≤ p → p ≤ b.2 → C p w → F w) : F w := by
  obtain ⟨p, h1, h2, h3⟩ := h
  exact k p h1 h2 h3
theorem cr_at {C : Nat → World → Prop} {k : Nat} {w : World} (h : CR C (k, k) w) : C k w := by
  obtain ⟨p, h1, h2, h3⟩ := h
  have : p = k := Nat.le_antisymm h2 h1
  exact this ▸ h3
theorem cw_e {E : World → Prop} {p : Addr} {v : Value} (h : ∀ w, E w → w.cell? p = some v) : ∀ n : CW E, n.w.cell? p = some v := fun n => h n.w n.ok
/-- how the world turns: those of the row lead to the next class, the others keep what was there -/
def ZC (T : List Nat) (C : Nat → World → Prop) (R : Nat → World → World → Prop) (i : Nat) (w w' : World) : Prop := match T.idxOf? i with
  | some k => C (k + 1) w' ∧ R i w w'
  | none => Keeps w w'
section
variable {P : Program} {T : List Nat} {C : Nat → World → Prop} {R : Nat → World → World → Prop} {i : Nat} {w w' : World} {f : FuncId} {args : Array Value} {v : Value}
theorem zc_keep (h : T.idxOf? i = none) (k : Keeps w w') : ZC T C R i w w' := by unfold ZC; rw [h]; exact k
theorem zc_turn {k : Nat} (h : T.idxOf? i = some k) (hC : C (k + 1) w') (hR : R i w w') : ZC T C R i w w' := by unfold ZC; rw [h]; exact ⟨hC, hR⟩
theorem zc_hZ (h : ∀ p w w', C p w → Keeps w w' → C p w') : ∀ i, i ∉ T → ∀ p w w', C p w → ZC T C R i w w' → C p w' := fun i hi p w w' hC hz => by
  have : T.idxOf? i = none := List.idxOf?_eq_none_iff.2 hi
  unfold ZC at hz
  rw [this] at hz
  exact h p w w' hC hz
theorem zc_hT (hn : T.Nodup) : ∀ k, k < T.length → ∀ w w', C k w → ZC T C R (T.getD k 0) w w' → C (k + 1) w' := fun k hk w w' _ hz => by
  have : T.idxOf? (T.getD k 0) = some k := by
    rw [getD_elem hk, List.idxOf?, List.findIdx?_eq_some_iff_getElem]
    refine ⟨hk, by simp, fun j hj => ?_⟩
    have := (List.pairwise_iff_getElem.1 hn) j k (by omega) hk hj
    simpa using this
  unfold ZC at hz
  rw [this] at hz
  exact hz.1
theorem gup_keep (hi : T.idxOf? i = none) (h : Calls P f args w fun e w'' => e = .returned v ∧ Keeps w w'') : GUp P (ZC T C R i) (fun u _ => u = v) w (.ok (.enter f args) w) :=
  ⟨rfl, h.mono fun e w'' ⟨h1, h2⟩ => ⟨v, h1, zc_keep hi h2, rfl⟩⟩
theorem gup_same (hi : T.idxOf? i = none) (h : Calls P f args w fun e w'' => e = .returned v ∧ w = w'') : GUp P (ZC T C R i) (fun u _ => u = v) w (.ok (.enter f args) w) :=
  ⟨rfl, h.mono fun e w'' ⟨h1, h2⟩ => ⟨v, h1, zc_keep hi (h2 ▸ Below.refl _ _), rfl⟩⟩
theorem gup_turn {k : Nat} (hi : T.idxOf? i = some k) (h : Calls P f args w fun e w'' => e = .returned v ∧ C (k + 1) w'' ∧ R i w w'') : GUp P (ZC T C R i) (fun u _ => u = v) w (.ok (.enter f args) w) :=
  ⟨rfl, h.mono fun e w'' ⟨h1, h2, h3⟩ => ⟨v, h1, zc_turn hi h2 h3, rfl⟩⟩
end
end Go.Proofs.Ytdfklbjkcednhaa
