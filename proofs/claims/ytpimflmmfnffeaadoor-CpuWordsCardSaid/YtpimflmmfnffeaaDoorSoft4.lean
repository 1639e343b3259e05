/- The law of a region that draws its order (see Soft, Soft2, Soft3): every order. -/
import Derived.Test.YtpimflmmfnffeaaDoorSoft3
namespace Go.Proofs.YtpimflmmfnffeaaDoor
open Go.RowKit

section
variable {P : Program} {W : World} {made : List Nat} {D : Nat → Mk} {l : List Oper} {a0 : Act} {vals : Nat → Value} {N : Nat} {Q : Exit → Act → World → Prop}

theorem soft_any (ok : SoftOk made N l.toArray) (hN : a0.tmps.size = N) (hok : ∀ (j : Nat) (o : Oper), l[j]? = some o → OkAt P l.toArray W made D o (frs a0 l vals j) (vals j))
    (hQ : ∀ (listed : Array Bool) (a : Act) (w : World) (γ : Nat → Nat) (σ : Nat → Bool), SInv W made D l.toArray a0 vals listed a w γ σ → (∀ i, i < listed.size → listed.getD i false = true) → Q .normal a w) :
    ∀ (fuel : Nat) (listed : Array Bool) (a : Act) (w : World) (γ : Nat → Nat) (σ : Nat → Bool), SInv W made D l.toArray a0 vals listed a w γ σ → cnt listed = fuel → wpAny P .any l.toArray Q fuel listed a w := by
  intro fuel
  induction fuel with
  | zero =>
    intro listed a w γ σ inv hc
    have hall : ∀ i, i < listed.size → listed.getD i false = true := fun i hi => cnt_zero hc i hi
    refine ⟨?_, hQ listed a w γ σ inv hall⟩
    rw [List.eq_nil_iff_forall_not_mem]
    intro i hi
    obtain ⟨h1, o, ho, _⟩ := mem_ready.1 hi
    have h2 := hall i (by rw [inv.size]; exact lt_of_some ho)
    rw [getD_both h1] at h2
    cases h2
  | succ fuel ih =>
    intro listed a w γ σ inv hc
    constructor
    · intro hr
      exfalso
      -- the first that is not listed may come up
      have hex : ∃ i, i < listed.size ∧ listed.getD i false = false := by
        refine Classical.byContradiction fun hne => ?_
        have hall : ∀ i, i < listed.size → listed.getD i false = true := fun i hi => by
          cases h : listed.getD i false with
          | true => rfl
          | false => exact absurd ⟨i, hi, h⟩ hne
        have : cnt listed = 0 := by
          unfold cnt
          rw [List.length_eq_zero_iff, List.filter_eq_nil_iff]
          intro b hb
          obtain ⟨i, hi, he⟩ := List.mem_iff_getElem.1 hb
          have h1 := hall i (by simpa using hi)
          have hi' : i < listed.size := by simpa using hi
          simp [hi'] at h1
          simp at he
          rw [← he, h1]
          simp
        omega
      obtain ⟨i0, hi0, hu0⟩ := hex
      have hmin : ∃ i, i < listed.size ∧ listed.getD i false = false ∧ ∀ j, j < i → listed.getD j false = true := by
        induction i0 using Nat.strongRecOn with
        | _ i0 ihm =>
          by_cases h : ∃ j, j < i0 ∧ listed.getD j false = false
          · obtain ⟨j, hj, hju⟩ := h
            exact ihm j hj (by omega) hju
          · refine ⟨i0, hi0, hu0, fun j hj => ?_⟩
            cases hjv : listed.getD j false with
            | true => rfl
            | false => exact absurd ⟨j, hj, hjv⟩ h
      obtain ⟨i, hi, hu, hlt⟩ := hmin
      have hil : i < l.toArray.size := by rw [← inv.size]; exact hi
      have : i ∈ Region.ready .any l.toArray listed := mem_ready.2 ⟨getD_in hi hu, l.toArray[i], by simp [Array.getElem?_eq_getElem hil], fun e he hb => hlt _ (ok.back i _ (Array.getElem?_eq_getElem hil) e he hb)⟩
      rw [hr] at this
      cases this
    · intro i hi
      obtain ⟨hun, o, ho, hall⟩ := mem_ready.1 hi
      have hol : l[i]? = some o := by rw [← List.getElem?_toArray]; exact ho
      have hcn : cnt (listed.setIfInBounds i true) = fuel := by have := cnt_step hun; omega
      have hO := hok i o hol
      have agree : ∀ k ∈ o.looksAt l.toArray, k ∉ made → a.tmps[k]? = (frs a0 l vals i).tmps[k]? := fun k hk hkm => soft_agree ok hN inv ho hun hall hk hkm
      unfold wpOp
      simp only [ho]
      unfold OkAt at hO
      cases hk : kd made o with
      | q =>
        simp only [hk] at hO
        obtain ⟨q1, q2, q3⟩ := ok.kq i o ho hk
        have hag : ∀ k ∈ o.looksAt l.toArray, a.tmps[k]? = (frs a0 l vals i).tmps[k]? := fun k h => agree k h (q1 k h)
        have hx := exec_agree o (fun cs b => ok.sel i o cs b ho) hag
        have hw := want_agree o hag
        have next : ∀ w', Below W.heap.size W w' → (∀ d ∈ made, mL made l.toArray listed d → Blk w' (γ d) (D d).t (if σ d then (D d).c1 else (D d).c0)) → wpAny P .any l.toArray Q fuel (listed.setIfInBounds i true) (a.put o.dst (vals i)) w' := by
          intro w' hB hm
          refine ih _ _ _ γ σ (soft_frame ok hN inv ho hun hall (by unfold rv; rw [hk]) (fun _ _ _ _ => rfl) hB ?_ ?_ ?_ ?_) hcn
          · intro d hd h
            have h' := mL_other ho (by simp [hk]) h
            exact ⟨(inv.mem d hd h').1, hm d hd h'⟩
          · intro d hd d' hd' h h'
            exact inv.inj d hd d' hd' (mL_other ho (by simp [hk]) h) (mL_other ho (by simp [hk]) h')
          · intro d hd
            obtain ⟨j, oj, h1, h2, h3⟩ := inv.sig d hd
            exact ⟨j, oj, h1, h2, getD_set_true h3⟩
          · intro d j oj hj hkj hl
            exact inv.sig' d j oj hj hkj (sig_other ho (by simp [hk]) hj hkj hl)
        have keep : ∀ w', Below w.heap.size w w' → wpAny P .any l.toArray Q fuel (listed.setIfInBounds i true) (a.put o.dst (vals i)) w' := fun w' hb =>
          next w' (bstep inv.below (Nat.le_refl _) hb) (fun d hd h => (inv.mem d hd h).2.keep hb)
        rcases hO with ⟨hw1, hq⟩ | ⟨hw1, hv⟩
        · rw [if_pos (hw.trans hw1)]
          left
          unfold Oper.wp
          rw [hx]
          unfold QOk at hq
          by_cases hc : isCall o = true
          · rw [if_pos hc] at hq
            have h3 : CUp P w (vals i) ((execOp (frs a0 l vals i).eval o).run P w) := hq ⟨w, inv.below⟩
            generalize (execOp (frs a0 l vals i).eval o).run P w = r at *
            cases r with
            | ok n w' =>
              cases n <;> simp only [CUp] at h3 <;> simp only [Oper.upon]
              case value u => obtain ⟨e1, e2⟩ := h3; rw [e1, e2]; exact keep w (Below.refl _ _)
              case enter f args =>
                obtain ⟨e1, hc1⟩ := h3
                rw [e1]
                exact hc1.mono fun e w'' ⟨he, hb⟩ => by subst he; exact keep w'' hb
            | halt x w' => simp only [CUp] at h3
          · rw [if_neg hc] at hq
            have h3 := hq w ⟨⟨w, inv.below⟩, rfl⟩
            have hpl : plain o = true := q3.resolve_right hc
            unfold Oper.quietAt at h3
            have hne := fun w' f args => plain_not_enter (P := P) hpl (frs a0 l vals i).eval w w' f args
            generalize (execOp (frs a0 l vals i).eval o).run P w = r at *
            cases r with
            | ok n w' =>
              cases n <;> simp only [Oper.quietUpon] at h3 <;> simp only [Oper.upon]
              case value u => obtain ⟨e1, e2⟩ := h3; rw [e1, e2]; exact keep w (Below.refl _ _)
              case skip => obtain ⟨e1, e2⟩ := h3; rw [e1, ← e2]; exact keep w (Below.refl _ _)
              case enter f args => exact absurd rfl (hne w' f args)
            | halt x w' => simp only [Oper.quietUpon] at h3
        · rw [if_neg (by rw [hw, hw1]; simp), ← hv]
          exact keep w (Below.refl _ _)
      | m d0 =>
        simp only [hk] at hO
        obtain ⟨m1, m2, m3, m4⟩ := ok.km i o d0 ho hk
        have hx := exec_agree o (fun cs b => ok.sel i o cs b ho) (fun k h => agree k h (m4 k h))
        rw [if_pos (by unfold Region.wanted; rw [m3])]
        left
        unfold Oper.wp
        rw [hx, show w = (⟨w, inv.below⟩ : Aft W).w from rfl, hO ⟨w, inv.below⟩]
        simp only [Oper.upon]
        have hnm : ¬ mL made l.toArray listed d0 := fun ⟨j, oj, hj, hkj, hl⟩ => by
          have := ok.dist j i oj o d0 hj ho (kd_m hkj).1 m1
          subst this
          rw [getD_both hun] at hl
          cases hl
        have hns : σ d0 = false := by
          cases hs : σ d0 with
          | false => rfl
          | true =>
            exfalso
            obtain ⟨j, oj, hj, hkj, hl⟩ := inv.sig d0 hs
            obtain ⟨_, _, _, _, _, jm, om, hjm, hkm, hwt⟩ := ok.ks j oj d0 hj hkj
            obtain ⟨e, he, hb, hon⟩ := waits_mem hj hwt
            exact hnm ⟨jm, om, hjm, hkm, by rw [← hon]; exact inv.closed j oj hj hl e he hb⟩
        refine ih _ _ _ (fun d => if d = d0 then w.heap.size else γ d) σ (soft_frame ok hN inv ho hun hall (by unfold rv; rw [hk]; simp) (fun j oj hj hl => ?_) (inv.below.alloc inv.below.size _) ?_ ?_ ?_ ?_) hcn
        · unfold rv
          cases hkj : kd made oj with
          | m d =>
            have : d ≠ d0 := fun e => hnm ⟨j, oj, hj, by rw [hkj, e], hl⟩
            simp [this]
          | q => rfl
          | s d => rfl
        · intro d hd h
          by_cases hdd : d = d0
          · subst hdd
            simp only [if_true, hns]
            exact ⟨inv.below.size, Blk.new _ _ _⟩
          · simp only [hdd, if_false]
            have h' : mL made l.toArray listed d := by
              obtain ⟨j, oj, hj, hkj, hl⟩ := h
              refine ⟨j, oj, hj, hkj, ?_⟩
              by_cases hij : i = j
              · subst hij
                rw [ho] at hj
                injection hj with hj
                subst hj
                rw [hk] at hkj
                injection hkj with hkj
                exact absurd hkj.symm hdd
              · rw [getD_set_ne false hij] at hl
                exact hl
            exact ⟨(inv.mem d hd h').1, (inv.mem d hd h').2.alloc _⟩
        · intro d hd d' hd' h h'
          have old : ∀ d, d ∈ made → d ≠ d0 → mL made l.toArray (listed.setIfInBounds i true) d → mL made l.toArray listed d := fun d _ hdd h => by
            obtain ⟨j, oj, hj, hkj, hl⟩ := h
            refine ⟨j, oj, hj, hkj, ?_⟩
            by_cases hij : i = j
            · subst hij
              rw [ho] at hj
              injection hj with hj
              subst hj
              rw [hk] at hkj
              injection hkj with hkj
              exact absurd hkj.symm hdd
            · rw [getD_set_ne false hij] at hl
              exact hl
          by_cases h1 : d = d0 <;> by_cases h2 : d' = d0
          · intro _; rw [h1, h2]
          · simp only [h1, h2, if_true, if_false]
            intro he
            have := (inv.mem d' hd' (old d' hd' h2 h')).2.lt
            omega
          · simp only [h1, h2, if_true, if_false]
            intro he
            have := (inv.mem d hd (old d hd h1 h)).2.lt
            omega
          · simp only [h1, h2, if_false]
            exact inv.inj d hd d' hd' (old d hd h1 h) (old d' hd' h2 h')
        · intro d hd
          obtain ⟨j, oj, h1, h2, h3⟩ := inv.sig d hd
          exact ⟨j, oj, h1, h2, getD_set_true h3⟩
        · intro d j oj hj hkj hl
          exact inv.sig' d j oj hj hkj (sig_other ho (by simp [hk]) hj hkj hl)
      | s d0 =>
        simp only [hk] at hO
        obtain ⟨s1, s2, s3, s4, s5, jm, om, hjm, hkm, hwt⟩ := ok.ks i o d0 ho hk
        have hml : mL made l.toArray listed d0 := by
          obtain ⟨e, he, hb, hon⟩ := waits_mem ho hwt
          exact ⟨jm, om, hjm, hkm, by rw [← hon]; exact hall e he hb⟩
        have hslot : a.tmps[d0]? = some ((D d0).val (γ d0)) := by
          obtain ⟨j, oj, hj, hkj, hl⟩ := hml
          have := inv.new j oj d0 hj (kd_m hkj).1 hl
          rw [this]
          unfold rv
          rw [hkj]
        have hns : σ d0 = false := by
          cases hs : σ d0 with
          | false => rfl
          | true =>
            exfalso
            obtain ⟨j, oj, hj, hkj, hl⟩ := inv.sig d0 hs
            have := ok.ones j i oj o d0 hj ho hkj hk
            subst this
            rw [getD_both hun] at hl
            cases hl
        have hx : execOp a.eval o = execOp ((frs a0 l vals i).put (some d0) ((D d0).val (γ d0))).eval o := by
          refine exec_agree (ops := l.toArray) o (fun cs b => ok.sel i o cs b ho) (fun k h => ?_)
          by_cases hkd : k = d0
          · subst hkd
            rw [hslot, put_at _ _ _ (by rw [(frs_size a0 l vals i).1, hN]; exact ok.msize k s1)]
          · rw [put_get _ _ _ _ (fun e => hkd (by injection e with e; exact e.symm))]
            exact agree k h ((s5 k h).resolve_left hkd)
        have hm := inv.mem d0 s1 hml
        rw [hns] at hm
        obtain ⟨w', hr, hb1, hg⟩ := hO (γ d0) w hm.2
        rw [if_pos (by unfold Region.wanted; rw [s3])]
        left
        unfold Oper.wp
        rw [hx, hr]
        simp only [Oper.upon]
        have hv : undef = rv made D vals γ i o ∨ o.dst = none := .inr s4
        have hput : a.put o.dst undef = a.put o.dst (vals i) := by rw [s4]; rfl
        rw [hput]
        refine ih _ _ _ γ (fun d => if d = d0 then true else σ d) (soft_frame ok hN inv ho hun hall (by unfold rv; rw [hk]) (fun _ _ _ _ => rfl) (inv.below.grown hg inv.below.size (fun q hq => by injection hq with hq; rw [← hq]; exact hm.1)) ?_ ?_ ?_ ?_) hcn
        · intro d hd h
          have h' := mL_other ho (by simp [hk]) h
          by_cases hdd : d = d0
          · subst hdd
            simp only [if_true]
            exact ⟨hm.1, hb1⟩
          · simp only [hdd, if_false]
            refine ⟨(inv.mem d hd h').1, (inv.mem d hd h').2.grown hg (fun e => hdd ?_)⟩
            injection e with e
            exact inv.inj d hd d0 s1 h' hml e
        · intro d hd d' hd' h h'
          exact inv.inj d hd d' hd' (mL_other ho (by simp [hk]) h) (mL_other ho (by simp [hk]) h')
        · intro d hd
          by_cases hdd : d = d0
          · subst hdd
            have hsz : i < listed.size := by rw [inv.size]; exact lt_of_some ho
            exact ⟨i, o, ho, hk, by simp [hsz]⟩
          · simp only [hdd, if_false] at hd
            obtain ⟨j, oj, h1, h2, h3⟩ := inv.sig d hd
            exact ⟨j, oj, h1, h2, getD_set_true h3⟩
        · intro d j oj hj hkj hl
          by_cases hdd : d = d0
          · simp [hdd]
          · simp only [hdd, if_false]
            refine inv.sig' d j oj hj hkj ?_
            by_cases hij : i = j
            · subst hij
              rw [ho] at hj
              injection hj with hj
              subst hj
              rw [hk] at hkj
              injection hkj with hkj
              exact absurd hkj.symm hdd
            · rw [getD_set_ne false hij] at hl
              exact hl

def putM (D : Nat → Mk) (γ : Nat → Nat) : List Nat → Act → Act
  | [], a => a
  | d :: ds, a => putM D γ ds (a.put (some d) ((D d).val (γ d)))
theorem putM_size (γ : Nat → Nat) : ∀ (ds : List Nat) (a : Act), (putM D γ ds a).tmps.size = a.tmps.size ∧ (putM D γ ds a).defers = a.defers
  | [], a => ⟨rfl, rfl⟩
  | d :: ds, a => by
    unfold putM
    exact ⟨by rw [(putM_size γ ds _).1, put_size], by rw [(putM_size γ ds _).2, put_defs]⟩
theorem putM_old (γ : Nat → Nat) (k : Nat) : ∀ (ds : List Nat) (a : Act), k ∉ ds → (putM D γ ds a).tmps[k]? = a.tmps[k]?
  | [], a, _ => rfl
  | d :: ds, a, h => by
    unfold putM
    rw [putM_old γ k ds _ (fun h' => h (by simp [h'])), put_get _ _ _ _ (fun e => h (by injection e with e; simp [e]))]
theorem putM_new (γ : Nat → Nat) (k : Nat) : ∀ (ds : List Nat) (a : Act), k ∈ ds → k < a.tmps.size → (putM D γ ds a).tmps[k]? = some ((D k).val (γ k))
  | d :: ds, a, h, hk => by
    unfold putM
    by_cases hin : k ∈ ds
    · exact putM_new γ k ds _ hin (by rw [put_size]; exact hk)
    · have : k = d := by simpa [hin] using h
      subst this
      rw [putM_old γ k ds _ hin, put_at _ _ _ hk]

/-- ONE WALK, IN THE ORDER OF THE TEXT, SERVES EVERY ORDER. -/
theorem wp_region_soft {id : Nat} {a : Act} {w0 : World} (made : List Nat) (D : Nat → Mk) (N : Nat) (hm : P.follows .mixedOrders = true) (hB : softB made N l.toArray = true) (hN : a.tmps.size = N)
    (h : wpSh P l.toArray w0 made D (fun aF => ∀ (γ : Nat → Nat) (w : World), Below w0.heap.size w0 w → (∀ d ∈ made, w0.heap.size ≤ γ d ∧ Blk w (γ d) (D d).t (D d).c1) → (∀ d ∈ made, ∀ d' ∈ made, γ d = γ d' → d = d') → Q .normal (putM D γ made aF) w) l a) :
    (Code.region id l.toArray true).wp P Q a w0 := by
  have ok := soft_spec hB
  obtain ⟨vals, hok, hfin⟩ := sh_ext l a h
  refine wp_region_any hm ?_
  have h0 : SInv w0 made D l.toArray a vals (Array.replicate l.toArray.size false) a { w0 with drawn := w0.drawn + 1 } (fun _ => 0) (fun _ => false) := by
    have hf : ∀ j, (Array.replicate l.toArray.size false).getD j false = true → False := fun j hj => by rw [getD_replicate_false] at hj; cases hj
    exact ⟨by simp, fun j oj _ hl => (hf j hl).elim, rfl, rfl, fun j o s _ _ hl => (hf j hl).elim, fun s _ => rfl, (Below.refl _ _).drew, fun d _ ⟨j, o, _, _, hl⟩ => (hf j hl).elim, fun d _ d' _ ⟨j, o, _, _, hl⟩ => (hf j hl).elim, fun d hd => (by cases hd), fun d j o _ _ hl => (hf j hl).elim⟩
  refine soft_any (vals := vals) ok hN hok ?_ l.toArray.size _ a _ _ _ h0 (by simp [cnt])
  intro listed a' w γ σ inv hall
  have all : ∀ (j : Nat) (o : Oper), l.toArray[j]? = some o → listed.getD j false = true := fun j o hj => hall j (by rw [inv.size]; exact lt_of_some hj)
  have hml : ∀ d ∈ made, mL made l.toArray listed d := fun d hd => by
    obtain ⟨j, oj, hj, hk⟩ := ok.hasM d hd
    exact ⟨j, oj, hj, hk, all j oj hj⟩
  have hσ : ∀ d ∈ made, σ d = true := fun d hd => by
    obtain ⟨j, oj, hj, hk⟩ := ok.hasS d hd
    exact inv.sig' d j oj hj hk (all j oj hj)
  have hfr : a' = putM D γ made (frs a l vals l.length) := by
    have e1 : a'.tmps = (putM D γ made (frs a l vals l.length)).tmps := by
      apply Array.ext_getElem?
      intro k
      by_cases hkm : k ∈ made
      · rw [putM_new γ k made _ hkm (by rw [(frs_size a l vals _).1, hN]; exact ok.msize k hkm)]
        obtain ⟨j, oj, hj, hk⟩ := ok.hasM k hkm
        rw [inv.new j oj k hj (kd_m hk).1 (all j oj hj)]
        unfold rv
        rw [hk]
      · rw [putM_old γ k made _ hkm]
        by_cases hex : ∃ (j : Nat) (oj : Oper), l.toArray[j]? = some oj ∧ oj.dst = some k
        · obtain ⟨j, oj, hj, dj⟩ := hex
          have hj' : l[j]? = some oj := by rw [← List.getElem?_toArray]; exact hj
          rw [inv.new j oj k hj dj (all j oj hj), frs_new a l vals k j oj hj' dj (by rw [hN]; exact ok.size j oj k hj dj) (fun j' o' h' hne hd' => hne (ok.dist j' j o' oj k (by rw [List.getElem?_toArray]; exact h') hj hd' dj)) l.length (List.getElem?_eq_some_iff.1 hj').1]
          unfold rv
          cases hk : kd made oj with
          | m d => have := kd_m hk; rw [dj] at this; injection this.1 with h1; subst h1; exact absurd this.2 hkm
          | q => rfl
          | s d => rfl
        · have hno : ∀ (j : Nat) (oj : Oper), l.toArray[j]? = some oj → oj.dst ≠ some k := fun j oj hj hd => hex ⟨j, oj, hj, hd⟩
          rw [inv.old k (fun j oj hj _ => hno j oj hj), frs_old a l vals k l.length (fun j oj _ hj => hno j oj (by rw [List.getElem?_toArray]; exact hj))]
    have e2 : a'.defers = (putM D γ made (frs a l vals l.length)).defers := by rw [(putM_size γ made _).2, (frs_size a l vals _).2, inv.defs]
    obtain ⟨t1, d1⟩ := a'
    generalize putM D γ made (frs a l vals l.length) = b at *
    obtain ⟨t2, d2⟩ := b
    simp only at e1 e2
    subst e1 e2
    rfl
  rw [hfr]
  refine hfin γ w inv.below (fun d hd => ?_) (fun d hd d' hd' => inv.inj d hd d' hd' (hml d hd) (hml d' hd'))
  have := inv.mem d hd (hml d hd)
  rw [hσ d hd] at this
  exact this

/-! the steps of the walk -/
variable {ops : Array Oper} {Qf : Act → Prop} {o : Oper} {rest : List Oper} {a : Act}
theorem sh_q (hk : kd made o = .q) (hc : isCall o = false) (hw : Region.wanted o (yielded ops a.tmps) = true) (h : ∀ K : Act → Prop, (∀ a, wpSh P ops W made D Qf rest a → K a) → o.quiet P a (fun w => ∃ n : Aft W, w = n.w) K) : wpSh P ops W made D Qf (o :: rest) a := by
  obtain ⟨v, h1, h2⟩ := h _ (fun _ h => h)
  unfold wpSh
  rw [hk]
  simp only
  rw [if_pos hw]
  exact ⟨v, by unfold QOk; rw [hc]; exact h1, h2⟩
theorem sh_skip (hk : kd made o = .q) (hw : Region.wanted o (yielded ops a.tmps) = false) (h : wpSh P ops W made D Qf rest (a.put o.dst undef)) : wpSh P ops W made D Qf (o :: rest) a := by
  unfold wpSh
  rw [hk]
  simp only
  rw [if_neg (by rw [hw]; simp)]
  exact h
theorem sh_call (hk : kd made o = .q) (hc : isCall o = true) (hw : Region.wanted o (yielded ops a.tmps) = true) (h : ∀ K : Act → Prop, (∀ a, wpSh P ops W made D Qf rest a → K a) → ∃ v, (∀ n : Aft W, CUp P n.w v ((execOp a.eval o).run P n.w)) ∧ K (a.put o.dst v)) : wpSh P ops W made D Qf (o :: rest) a := by
  obtain ⟨v, h1, h2⟩ := h _ (fun _ h => h)
  unfold wpSh
  rw [hk]
  simp only
  rw [if_pos hw]
  exact ⟨v, by unfold QOk; rw [hc]; exact h1, h2⟩
theorem sh_m (d : Nat) (hk : kd made o = .m d) (h1 : MOk P W o a (D d)) (h : wpSh P ops W made D Qf rest (a.put o.dst undef)) : wpSh P ops W made D Qf (o :: rest) a := by
  unfold wpSh
  rw [hk]
  exact ⟨h1, h⟩
theorem sh_s (d : Nat) (hk : kd made o = .s d) (h1 : SOk P o a d (D d)) (h : wpSh P ops W made D Qf rest (a.put o.dst undef)) : wpSh P ops W made D Qf (o :: rest) a := by
  unfold wpSh
  rw [hk]
  exact ⟨h1, h⟩
theorem sh_end (h : Qf a) : wpSh P ops W made D Qf [] a := h
theorem cup_same {f : FuncId} {args : Array Value} {w : World} {v : Value} (h : Calls P f args w fun e w' => e = .returned v ∧ w = w') : Calls P f args w fun e w' => e = .returned v ∧ Below w.heap.size w w' :=
  h.mono fun _ _ ⟨he, hw⟩ => ⟨he, by rw [← hw]; exact Below.refl _ _⟩
end
end Go.Proofs.YtpimflmmfnffeaaDoor
